import Derived.Below
import Derived.BigQuiet
import Derived.Deep.LoopGhost
import Derived.Deep.RegionWith
import Derived.KernelRfl
import Derived.Lib.Hide
import Derived.Lib.OthersKept
import Derived.OwnWalk
import Derived.WalkKit
import Derived.Test.YtldjdcdoegjmoaaDoorC1
import Derived.Test.YtldjdcdoegjmoaaDoorC5
import Derived.Test.YtldjdcdoegjmoaaDoorC31
set_option linter.unusedVariables false
set_option linter.unusedSimpArgs false
namespace Go.Proofs.YtldjdcdoegjmoaaDoor.P
open Go.RowKit Go.Proofs.YtldjdcdoegjmoaaDoor Go.Proofs.YtldjdcdoegjmoaaDoor.Pure Go.Proofs.YtldjdcdoegjmoaaDoor.Wr Go.Proofs.YtldjdcdoegjmoaaDoorW.PrintWords Go.Proofs.YtldjdcdoegjmoaaDoorW.PrintLast
theorem empty_of {a : ByteArray} (h : (a.toList == ([] : List UInt8)) = true) : a = ⟨#[]⟩ := by
  have h1 := toList_nil.1 (by simpa using h : a.toList = [])
  apply ByteArray.ext
  exact Array.eq_empty_of_size_eq_zero h1
theorem right_bare (k : Nat) (a0 a1 a2 : Int) (a3 : ByteArray) (a4 : Bool) (a5 a6 a7 a8 a9 a10 : Int) (hs : a3.size ≤ bnd) (hk : a3.size + 8 < k)
    (h : lexis_right.f k a0 a1 a2 a3 a4 a5 a6 a7 a8 a9 a10 = some true) : BareP a0 a3 a4 a5 a6 a7 a8 a9 a10 := by
  obtain ⟨k, rfl⟩ : ∃ m, k = m + 1 := ⟨k - 1, by omega⟩
  unfold lexis_right.f at h
  by_cases c1 : a0 = 1
  · rw [if_pos c1, Name_f a3 hs _ (by omega)] at h
    split at h
    · next q =>
      simp at q h
      obtain ⟨q1, ⟨q2, q3, q4, q5⟩, q6, q7⟩ := q
      exact ⟨fun _ => h, fun _ => by omega, fun _ => by omega, fun _ => q1, fun _ => ⟨q2, q3, q4, q5⟩, fun _ => ⟨q6, q7⟩⟩
    · cases h
  rw [if_neg c1] at h
  have main : ∀ x : Bool, (x = true ↔ a0 = 16 ∨ a0 = 17) → lexis_right.j0 (k + 1) a0 x a0 0 0 a3 a4 a5 a6 a7 a8 a9 a10 0 0 0 a3 a4 a5 a6 a7 a8 a9 a10 = some true → BareP a0 a3 a4 a5 a6 a7 a8 a9 a10 := by
    intro x hx h
    rw [lexis_right.j0.eq_def] at h
    simp only [] at h
    rw [ownName_f a3 hs _ (by omega)] at h
    by_cases c2 : x = true
    · rw [if_pos c2] at h
      have := hx.1 c2
      split at h
      · next q =>
        simp at q h
        obtain ⟨q1, ⟨q2, q3, q4, q5⟩, q6, q7⟩ := q
        exact ⟨fun _ => by omega, fun _ => h, fun _ _ _ _ => by omega, fun _ => q1, fun _ => ⟨q2, q3, q4, q5⟩, fun _ => ⟨q6, q7⟩⟩
      · cases h
    · rw [if_neg c2] at h
      have hnm : ¬ (a0 = 16 ∨ a0 = 17) := fun q => c2 (hx.2 q)
      by_cases c3 : a0 = 9
      · rw [if_pos c3] at h
        split at h
        · next q =>
          have q0 : (a3.toList == ([] : List UInt8)) = true := by
            cases qq : (a3.toList == ([] : List UInt8)) with
            | true => rfl
            | false => rw [qq] at q; simp at q
          rw [q0] at q
          simp at q
          obtain ⟨q1, q2, q3, q4, q5⟩ := q
          exact ⟨fun _ => by omega, fun q => absurd q hnm, fun _ _ _ _ => empty_of q0, fun _ => q1, fun _ => ⟨q2, q3, q4, q5⟩, fun q => absurd c3 q⟩
        · cases h
      · rw [if_neg c3] at h
        by_cases c4 : a0 = 14
        · rw [if_pos c4] at h
          simp at h
          obtain ⟨⟨q2, q3, q4, q5⟩, q6, q7⟩ := h
          exact ⟨fun _ => by omega, fun q => absurd q hnm, fun _ q _ _ => absurd c4 q, fun q => absurd c4 q, fun _ => ⟨q2, q3, q4, q5⟩, fun _ => ⟨q6, q7⟩⟩
        · rw [if_neg c4] at h
          have q0 : (a3.toList == ([] : List UInt8)) = true := by
            cases qq : (a3.toList == ([] : List UInt8)) with
            | true => rfl
            | false => rw [qq] at h; simp at h
          rw [q0] at h
          by_cases c5 : a0 = 15
          · rw [if_pos c5] at h
            simp at h
            obtain ⟨q1, q6, q7⟩ := h
            exact ⟨fun _ => by omega, fun q => absurd q hnm, fun _ _ _ _ => empty_of q0, fun _ => q1, fun q => absurd c5 q, fun _ => ⟨q6, q7⟩⟩
          · rw [if_neg c5] at h
            by_cases c6 : a0 ≥ 0
            · rw [if_pos c6] at h
              by_cases c7 : a0 ≤ 17
              · rw [if_pos c7] at h
                simp at h
                obtain ⟨q1, ⟨q2, q3, q4, q5⟩, q6, q7⟩ := h
                exact ⟨fun _ => by omega, fun q => absurd q hnm, fun _ _ _ _ => empty_of q0, fun _ => q1, fun _ => ⟨q2, q3, q4, q5⟩, fun _ => ⟨q6, q7⟩⟩
              · rw [if_neg c7] at h; cases h
            · rw [if_neg c6] at h; cases h
  split at h
  · rename_i c8
    exact main _ ⟨fun _ => .inl c8, fun _ => by simpa using c8⟩ h
  · rename_i c8
    exact main _ ⟨fun q => .inr (by simpa using q), fun q => by simpa using q.resolve_left c8⟩ h
theorem tokOk_all {x : S26} (h : OkT x) (hr : rightB x = true) (hs : x.f3.size ≤ 65536) : TokOk x := by
  refine tokOk_of h hr hs (right_bare (x.f3.size + 400) x.f0 x.f1 x.f2 x.f3 x.f4 x.f5.f0 x.f5.f1 x.f5.f2 x.f5.f3 x.f6 x.f7 h.1 (by omega) ?_)
  rw [(right_k h (Nat.le_refl _)).1, hr]
/-- lexis.Spell of a token that is right. -/
theorem spell_k {x : S26} (h : OkT x) (hr : rightB x = true) (hs : x.f3.size ≤ 65536) (ht : (textE x).size ≤ 65536) {k : Nat} (hk : x.f3.size + 400 ≤ k) : lexis_Spell.f k x.f0 x.f1 x.f2 x.f3 x.f4 x.f5.f0 x.f5.f1 x.f5.f2 x.f5.f3 x.f6 x.f7 = some (textE x, 0) := by
  unfold lexis_Spell.f
  rw [(right_k h hk).1, hr, Option.bind_some, if_pos rfl, if_neg (by omega), (text_k h hr hs (k := k) (by omega)).1, Option.bind_some, if_neg (by omega)]
/-- How many tokens there are ahead of an end. -/
def nr : List S26 → Nat
  | [] => 0
  | x :: m => if x.f0 = 0 then 0 else nr m + 1
theorem at_cons (x : S26) (m : List S26) (j : Nat) : at_ (x :: m) (j + 1) = at_ m j := by
  unfold at_ Q17
  rw [Int.toNat_natCast, Int.toNat_natCast]
  simp [List.getD]
theorem at_zero (x : S26) (m : List S26) : at_ (x :: m) 0 = x := by
  unfold at_ Q17
  rfl
theorem nr_at : ∀ m : List S26, EndLast m → (m = [] ∧ nr m = 0) ∨ (0 < m.length ∧ ((at_ m (m.length - 1)).f0 = 0 ∧ nr m + 1 = m.length ∨ (at_ m (m.length - 1)).f0 ≠ 0 ∧ nr m = m.length))
  | [], _ => .inl ⟨rfl, rfl⟩
  | x :: m, he => by
    right
    refine ⟨by simp, ?_⟩
    unfold nr
    by_cases h : x.f0 = 0
    · rw [if_pos h, he.1 h]
      exact .inl ⟨h, rfl⟩
    · rw [if_neg h]
      rcases nr_at m he.2 with ⟨rfl, h2⟩ | ⟨h1, h2⟩
      · exact .inr ⟨h, rfl⟩
      · have e : (x :: m).length - 1 = (m.length - 1) + 1 := by simp; omega
        rw [e, at_cons]
        rcases h2 with ⟨h3, h4⟩ | ⟨h3, h4⟩
        · exact .inl ⟨h3, by simp; omega⟩
        · exact .inr ⟨h3, by simp; omega⟩
theorem Rd_at {t : ByteArray} : ∀ (m : List S26) (L : List TV), Rd t m L → L.length = nr m + 1 ∧ L[nr m]? = some (plainV 0 t.size t.size) ∧ ∀ i, i < nr m → ∃ a e : Nat, L[i]? = some (tvOf a e (at_ m i)) ∧ a ≤ e ∧ e ≤ t.size ∧ t.extract a e = textE (at_ m i)
  | [], L, h => by
    have h' : L = [plainV 0 t.size t.size] := h
    subst h'
    exact ⟨rfl, rfl, fun i hi => by simp [nr] at hi⟩
  | x :: m, L, h => by
    obtain ⟨h1, h2⟩ := h
    unfold nr
    by_cases q : x.f0 = 0
    · obtain ⟨rfl, rfl⟩ := h1 q
      rw [if_pos q]
      exact ⟨rfl, rfl, fun i hi => by omega⟩
    · obtain ⟨a, e, L', rfl, h3, h4, h5, h6⟩ := h2 q
      obtain ⟨i1, i2, i3⟩ := Rd_at m L' h6
      rw [if_neg q]
      refine ⟨by simp [i1], by simpa using i2, fun i hi => ?_⟩
      cases i with
      | zero => exact ⟨a, e, by rw [at_zero]; rfl, h3, h4, by rw [at_zero]; exact h5⟩
      | succ i =>
        obtain ⟨b, f, g1, g2⟩ := i3 i (by omega)
        rw [at_cons]
        exact ⟨b, f, by simpa using g1, g2⟩
theorem Rd_codes {t : ByteArray} : ∀ (m : List S26) (L : List TV), Rd t m L → ∀ x ∈ L, codeOf x = 0
  | [], L, h, x, hx => by
    have h' : L = [plainV 0 t.size t.size] := h
    rw [h', List.mem_singleton] at hx
    rw [hx]; rfl
  | y :: m, L, h, x, hx => by
    by_cases q : y.f0 = 0
    · rw [(h.1 q).2, List.mem_singleton] at hx
      rw [hx]; rfl
    · obtain ⟨a, e, L', rfl, h3, h4, h5, h6⟩ := h.2 q
      rcases List.mem_cons.1 hx with rfl | hx
      · rfl
      · exact Rd_codes m L' h6 x hx
end Go.Proofs.YtldjdcdoegjmoaaDoor.P
set_option linter.unusedVariables false
set_option linter.unusedSimpArgs false
namespace Go.Proofs.YtldjdcdoegjmoaaDoor.Wr
open Go.RowKit Go.Proofs.YtldjdcdoegjmoaaDoor Go.Proofs.YtldjdcdoegjmoaaDoor.P Go.Proofs.YtldjdcdoegjmoaaDoor.Pure Go.Proofs.YtldjdcdoegjmoaaDoorW.PrintWords Go.Proofs.YtldjdcdoegjmoaaDoorW.PrintLast Go.Proofs.YtldjdcdoegjmoaaDoorW.PrintMore
abbrev tokV (x : S26) : Value := .agg #[.int .i64 x.f0, .int .i64 x.f1, .int .i64 x.f2, .string x.f3, .bool x.f4, .int .u64 x.f5.f0, .int .u64 x.f5.f1, .int .u64 x.f5.f2, .int .u64 x.f5.f3, .int .i64 x.f6, .int .i64 x.f7]
theorem textE_size (x : S26) (h : OkT x) (hr : rightB x = true) (hs : x.f3.size ≤ 65536) : (textE x).size ≤ 300000 := (text_k h hr hs (Nat.le_refl 400)).2.1
theorem right_c (x : S26) (h : OkT x) (W : World) : Calls Tryd.prog 19 #[tokV x] W fun e W' => e = .returned (.bool (rightB x)) ∧ Below W.heap.size W W' :=
  lexis_right.calls (x.f3.size + 400) _ _ _ _ _ _ _ _ _ _ _ (rightB x) W (right_k h (Nat.le_refl _)).1
theorem text_c (x : S26) (h : OkT x) (h1 : rightB x = true) (h2 : x.f3.size ≤ 65536) (W : World) (ht : TabOk W) : Calls Tryd.prog 20 #[tokV x] W fun e W' => e = .returned (.string (textE x)) ∧ Below W.heap.size W W' :=
  lexis_text.calls 400 _ _ _ _ _ _ _ _ _ _ _ (textE x) W (text_k h h1 h2 (Nat.le_refl 400)).1 ht
def Bf (w : World) (b : Nat) (l : List UInt8) (W : World) : Prop := Lib.IsBuilderF 54 5 w.heap.size b (Lib.byteCells l) W ∧ Below w.heap.size w W
theorem bf_atF {w : World} {b : Nat} {l : List UInt8} {W : World} (h : Bf w b l W) : ∃ p, Lib.BuilderAtF 54 5 w.heap.size b p (Lib.byteCells l) W := h.1.elim (fun x => ⟨_, x⟩) (fun x => ⟨_, x⟩)
theorem bf_lt {w : World} {b : Nat} {l : List UInt8} {W : World} (h : Bf w b l W) : b < W.heap.size := by
  obtain ⟨p, hp⟩ := bf_atF h
  exact hp.lt
theorem bf_below {w : World} {b : Nat} {l : List UInt8} {W W' : World} (h : Bf w b l W) (hb : Below W.heap.size W W') : Bf w b l W' := by
  refine ⟨?_, h.2.trans (hb.mono h.2.size)⟩
  have key : ∀ p, Lib.BuilderAtF 54 5 w.heap.size b p (Lib.byteCells l) W → Lib.BuilderAtF 54 5 w.heap.size b p (Lib.byteCells l) W' := fun p hp => by
    have hlt := hp.lt
    obtain ⟨hB, v, hv, hown, hne⟩ := hp
    exact ⟨hB, v, (hb.block b hlt).trans hv, hown.kept (row := none) ⟨hb.os, hb.tape, hb.output, hb.size, fun k hk _ => hb.block k hk⟩ (Classical.em _), hne⟩
  exact h.1.elim (fun x => .inl (key _ x)) (fun x => .inr (key _ x))
theorem bf_at {w W : World} (h : Below w.heap.size w W) : Bf w W.heap.size [] (W.alloc (.cells #[.pointer none, .slice none 0 0] 54)) := by
  refine ⟨Lib.IsBuilderF.of (.inl ⟨h.size, _, heap_alloc_new W _, World.ownsRow_nil _ _ _ _, by simp [Value.ownBlock]⟩), h.alloc h.size _⟩
theorem len_c (w : World) (b : Nat) (l : List UInt8) (W : World) (h : Bf w b l W) : Calls Tryd.prog 27 #[.pointer (some ⟨b, 0, none⟩)] W fun e W' => e = .returned (.int .i64 (l.length : Int)) ∧ W' = W := by
  obtain ⟨p, _, v, hv, hown, _⟩ := bf_atF h
  have hl : (Lib.byteCells l).length = l.length := by simp [Lib.byteCells]
  rw [hl] at hown
  obtain ⟨A, cap, rfl⟩ : ∃ A cap, v = .slice A l.length cap := by
    rcases hown.2 with ⟨q, q2⟩ | ⟨g, cap, cur, _, q, _⟩
    · exact ⟨none, 0, by rw [q, q2]⟩
    · exact ⟨_, _, q⟩
  have c0 : W.cell? ⟨b, 0, none⟩ = some p := by simp [World.cell?, hv]
  have c1 : W.cell? ⟨b, 1, none⟩ = some (.slice A l.length cap) := by simp [World.cell?, hv]
  go_enter Tryd.func27, Tryd.ntmps27
  go_wp2
  go_ret
  exact ⟨rfl, rfl⟩
theorem put_k (w : World) (b : Nat) (l : List UInt8) (c : UInt8) (W : World) (h : Bf w b l W) (hl : l.length ≤ 1000000) :
    Calls Tryd.prog 25 #[.pointer (some ⟨b, 0, none⟩), .int .u8 (c.toNat : Int)] W fun e W' => e = .returned .nilIface ∧ Bf w b (l ++ [c]) W' ∧ Lib.OthersKept 5 (some b) W W' := by
  refine (Tryd.Builder_WriteByte_k w.heap.size b (Lib.byteCells l) (c.toNat : Int) W h.1 (by unfold Lib.byteCells; simp; omega) h.2.size).mono ?_
  rintro e W' ⟨rfl, h1, h2, h3⟩
  refine ⟨rfl, ⟨?_, h.2.trans h2⟩, h3⟩
  unfold Lib.byteCells at h1 ⊢
  rw [List.map_append]
  exact .inr h1
theorem puts_k (w : World) (b : Nat) (l : List UInt8) (s : ByteArray) (W : World) (h : Bf w b l W) (hl : l.length ≤ 1000000) (hs : s.size ≤ 1000000) :
    Calls Tryd.prog 26 #[.pointer (some ⟨b, 0, none⟩), .string s] W fun e W' => e = .returned (.tuple #[.int .i64 s.size, .nilIface]) ∧ Bf w b (l ++ s.data.toList) W' := by
  refine (Tryd.Builder_WriteString_k w.heap.size b (Lib.byteCells l) s W h.1 (by unfold Lib.byteCells; simp; omega) h.2.size).mono ?_
  rintro e W' ⟨rfl, h1, h2, h3⟩
  refine ⟨rfl, ?_, h.2.trans h2⟩
  unfold Lib.byteCells at h1 ⊢
  rw [List.map_append]
  exact .inr h1
theorem told_k (w : World) (b : Nat) (l : List UInt8) (W : World) (h : Bf w b l W) :
    Calls Tryd.prog 28 #[.pointer (some ⟨b, 0, none⟩)] W fun e W' => e = .returned (.string ⟨l.toArray⟩) ∧ Below w.heap.size w W' := by
  refine (Tryd.Builder_String_any_k w.heap.size b l W h.1 h.2.size).mono ?_
  rintro e W' ⟨rfl, _, h2, _⟩
  exact ⟨rfl, h.2.trans h2⟩
theorem bel_new {w W W2 : World} {o : Obj} (h : Below w.heap.size w W) (h2 : Below (W.alloc o).heap.size (W.alloc o) W2) : Below w.heap.size w W2 ∧ W2.heap[W.heap.size]? = some o := by
  refine ⟨h.trans (((Below.refl W.heap.size W).alloc (Nat.le_refl _) o).mono h.size |>.trans (h2.mono (by simp; have := h.size; omega))), (h2.block W.heap.size (by simp)).trans (heap_alloc_new W o)⟩
theorem box_cell {W : World} {b : Nat} {cs : Array Value} {t : TypeId} (h : W.heap[b]? = some (.cells cs t (0, 0))) (j : Nat) : W.cell? ⟨b, j, none⟩ = cs[j]? := by simp [World.cell?, h]
set_option maxRecDepth 100000 in
set_option maxHeartbeats 4000000 in
theorem write_c (A : Option Addr) (c : Nat) (l : List S26) (w : World) (hr : Kd.C k26 w A l.length l) (hc : l.length ≤ c) (hl : l.length ≤ 1048576) (hok : ∀ x ∈ l, OkT x) (ht : TabOk w) :
    Calls Tryd.prog 11 #[.slice A l.length c] w fun e w' => e = .returned (.tuple #[.string (wrOut l).1, .int .i64 (wrOut l).2]) ∧ Below w.heap.size w w' := by
  have HR := Lib.hid hr; clear hr
  have HT := Lib.hid ht; clear ht
  have HOK := Lib.hid hok; clear hok
  go_enter Tryd.func11, Tryd.ntmps11
  go_wp2_with fail
  go_loopw [11] (fun i wr => ∃ t : Nat, t ≤ l.length ∧ i = .int .i64 t ∧ (∀ j < t, badB l j = false) ∧ Below w.heap.size w wr) (fun i _ => l.length - (intOf i).toNat)
  case atStart => exact ⟨0, by omega, rfl, fun j hj => by omega, Below.refl _ _⟩
  case round =>
    obtain ⟨t, ht, rfl, hbad, hQ⟩ := hrel
    obtain ⟨wo, rfl⟩ : ∃ wo : World, wo = wr := ⟨_, rfl⟩
    have HQ := Lib.hid hQ; clear hQ
    have HBAD := Lib.hid hbad; clear hbad
    by_cases hlt : t < l.length
    · have hkt : decide ((t : Int) < (l.length : Int)) = true := by simp; omega
      obtain ⟨ad, rfl, h0, h1, h2, h3, h4, h5, h6, h7, h8, h9, h10⟩ := at_T26 (Kd.C_below HR.out HQ.out) (t : Int) (by omega) (by omega)
      rw [Int.toNat_natCast] at h0 h1 h2 h3 h4 h5 h6 h7 h8 h9 h10
      have hz : (0 : Int) ≤ (t : Int) ∧ (t : Int) < (l.length : Int) := by omega
      have hxo : OkT (Q17 l (t : Int)) := HOK.out _ (by unfold Q17; rw [Int.toNat_natCast, List.getD_eq_getElem?_getD, List.getElem?_eq_getElem hlt]; exact List.getElem_mem hlt)
      have hbt : badB l t = (!rightB (Q17 l (t : Int)) || ((Q17 l (t : Int)).f0 == 0 && decide (t + 1 < l.length))) := rfl
      generalize hx : Q17 l (t : Int) = x at h0 h1 h2 h3 h4 h5 h6 h7 h8 h9 h10 hxo hbt
      have HX := Lib.hid hxo; clear hxo
      have HBT := Lib.hid hbt; clear hbt
      go_wp2_with fail
      clear h0 h1 h2 h3 h4 h5 h6 h7 h8 h9 h10
      refine (right_c x HX.out _).mono ?_
      rintro e W2 ⟨rfl, hb2⟩
      obtain ⟨hB2, hbox⟩ := bel_new HQ.out hb2
      have HB2 := Lib.hid hB2; clear hB2 hb2
      have p0 : W2.cell? ⟨wo.heap.size, 0, none⟩ = some (.int .i64 x.f0) := (box_cell hbox 0).trans rfl
      clear hbox
      cases hrt : rightB x with
      | false =>
        go_wp2
        go_ret2
        have hany : (List.range l.length).any (badB l) = true := List.any_eq_true.2 ⟨t, List.mem_range.2 hlt, by rw [HBT.out, hrt]; rfl⟩
        refine ⟨?_, HB2.out⟩
        unfold wrOut; rw [if_pos hany]; rfl
      | true =>
        by_cases c0 : x.f0 = 0
        · have c0b : (x.f0 == 0) = true := by simp [c0]
          have hsub : IntKind.i64.wrap ((l.length : Int) - 1) = (l.length : Int) - 1 := by rw [i64_w]; unfold wrap64; omega
          by_cases c1 : t + 1 < l.length
          · have c1b : decide ((t : Int) < (l.length : Int) - 1) = true := by simp; omega
            clear c0
            go_wp2
            go_ret2
            have hany : (List.range l.length).any (badB l) = true := List.any_eq_true.2 ⟨t, List.mem_range.2 hlt, by rw [HBT.out, hrt, c0b, decide_eq_true c1]; rfl⟩
            refine ⟨?_, HB2.out⟩
            unfold wrOut; rw [if_pos hany]; rfl
          · have c1b : decide ((t : Int) < (l.length : Int) - 1) = false := by simp; omega
            clear c0
            go_wp2
            go_roundw
            case rel => exact ⟨t + 1, by omega, by go_num, fun j hj => by
              rcases Nat.lt_succ_iff_lt_or_eq.1 hj with q | q
              · exact HBAD.out j q
              · rw [q, HBT.out, hrt, c0b, decide_eq_false c1]; rfl, HB2.out⟩
            case measure => simp [intOf]; omega
        · have c0b : (x.f0 == 0) = false := by simp [c0]
          clear c0
          go_wp2
          go_roundw
          case rel => exact ⟨t + 1, by omega, by go_num, fun j hj => by
            rcases Nat.lt_succ_iff_lt_or_eq.1 hj with q | q
            · exact HBAD.out j q
            · rw [q, HBT.out, hrt, c0b]; rfl, HB2.out⟩
          case measure => simp [intOf]; omega
    · have hkt : decide ((t : Int) < (l.length : Int)) = false := by simp; omega
      have hany : (List.range l.length).any (badB l) = false := by
        rw [List.any_eq_false]; intro j hj
        rw [HBAD.out j (by have := List.mem_range.1 hj; omega)]; simp
      have hout : wrOut l = wrR l l.length 0 [] := by unfold wrOut; rw [hany]; simp
      have hall : ∀ j < l.length, badB l j = false := fun j hj => HBAD.out j (by omega)
      have HALL := Lib.hid hall
      have HOUT := Lib.hid hout
      clear hout hany hall HBAD
      go_wp2_with fail
      have HB0 := Lib.hid (bf_at HQ.out)
      have HB1 := Lib.hid ((HQ.out.alloc HQ.out.size (.cells #[.pointer none, .slice none 0 0] 54)))
      generalize hb : wo.heap.size = b at HB0 ⊢
      have hbw : b < (wo.alloc (.cells #[.pointer none, .slice none 0 0] 54)).heap.size := by simp; omega
      have hfr : w.heap.size ≤ b := by rw [← hb]; exact HQ.out.size
      generalize wo.alloc (.cells #[.pointer none, .slice none 0 0] 54) = w1 at HB0 HB1 hbw ⊢
      clear HQ hb
      go_loopw [34] (fun i wr => ∃ (t : Nat) (acc : List UInt8), t ≤ l.length ∧ i = .int .i64 t ∧ acc.length ≤ 65536 ∧ wrR l (l.length - t) t acc = wrR l l.length 0 [] ∧ Bf w b acc wr) (fun i _ => l.length - (intOf i).toNat)
      case atStart => exact ⟨0, [], by omega, rfl, by simp, rfl, HB0.out⟩
      case round =>
        obtain ⟨t, acc, ht, rfl, hacc, hwr, hQ⟩ := hrel
        obtain ⟨wo, rfl⟩ : ∃ wo : World, wo = wr := ⟨_, rfl⟩
        have HQ := Lib.hid hQ; clear hQ
        have HWR := Lib.hid hwr; clear hwr
        by_cases hlt : t < l.length
        · have hkt : decide ((t : Int) < (l.length : Int)) = true := by simp; omega
          obtain ⟨ad, rfl, h0, h1, h2, h3, h4, h5, h6, h7, h8, h9, h10⟩ := at_T26 (Kd.C_below HR.out HQ.out.2) (t : Int) (by omega) (by omega)
          rw [Int.toNat_natCast] at h0 h1 h2 h3 h4 h5 h6 h7 h8 h9 h10
          have hz : (0 : Int) ≤ (t : Int) ∧ (t : Int) < (l.length : Int) := by omega
          have hxo : OkT (Q17 l (t : Int)) := HOK.out _ (by unfold Q17; rw [Int.toNat_natCast, List.getD_eq_getElem?_getD, List.getElem?_eq_getElem hlt]; exact List.getElem_mem hlt)
          have hrt : rightB (Q17 l (t : Int)) = true := by have := HALL.out t hlt; unfold badB at_ at this; simp at this; exact this.1
          have hstep : ∀ acc1, (if 0 < t ∧ (Q17 l (t : Int)).f0 ≠ 0 then acc ++ [32] else acc) = acc1 → wrR l (l.length - t) t acc = if (Q17 l (t : Int)).f3.size > 65536 then (⟨#[]⟩, 2) else if (acc1 ++ (textE (Q17 l (t : Int))).data.toList).length > 65536 then (⟨#[]⟩, 2) else wrR l (l.length - (t + 1)) (t + 1) (acc1 ++ (textE (Q17 l (t : Int))).data.toList) := wr_step l t hlt acc
          generalize hx : Q17 l (t : Int) = x at h0 h1 h2 h3 h4 h5 h6 h7 h8 h9 h10 hxo hrt hstep
          have HX := Lib.hid hxo; clear hxo
          have HRT := Lib.hid hrt; clear hrt
          have HBOX := Lib.hid (heap_alloc_new wo (.cells #[.int .i64 x.f0, .int .i64 x.f1, .int .i64 x.f2, .string x.f3, .bool x.f4, .int .u64 x.f5.f0, .int .u64 x.f5.f1, .int .u64 x.f5.f2, .int .u64 x.f5.f3, .int .i64 x.f6, .int .i64 x.f7] 26))
          have HBA := Lib.hid (bf_below HQ.out ((Below.refl wo.heap.size wo).alloc (Nat.le_refl _) (.cells #[.int .i64 x.f0, .int .i64 x.f1, .int .i64 x.f2, .string x.f3, .bool x.f4, .int .u64 x.f5.f0, .int .u64 x.f5.f1, .int .u64 x.f5.f2, .int .u64 x.f5.f3, .int .i64 x.f6, .int .i64 x.f7] 26)))
          have HNE := Lib.hid (show wo.heap.size ≠ b by have := bf_lt HQ.out; omega)
          have HS0 := Lib.hid hstep
          clear hstep
          by_cases c3 : x.f3.size > 65536
          · have c3b : decide ((x.f3.size : Int) > 65536) = true := by simp; omega
            have HC3 := Lib.hid c3
            clear c3
            by_cases cs : 0 < t ∧ x.f0 ≠ 0
            · have s0 : decide (0 < t) = true := by simp; omega
              have s1 : (x.f0 != 0) = true := by simp [cs.2]
              have hst2 := HS0.out (acc ++ [32]) (if_pos cs)
              rw [if_pos HC3.out] at hst2
              have HST := Lib.hid hst2
              have st : 0 < t := cs.1
              clear hst2 cs
              go_wp2_with fail
              clear h0 h1 h2 h3 h4 h5 h6 h7 h8 h9 h10
              refine (put_k w b acc 32 _ HBA.out (by omega)).mono ?_
              rintro e W2 ⟨rfl, hb2, hk2⟩
              have HB2 := Lib.hid hb2
              have HBX := Lib.hid (hk2 _ _ HBOX.out (by simpa using HNE.out) (fun _ _ h => by cases h))
              clear hb2 hk2
              have p0 : W2.cell? ⟨wo.heap.size, 0, none⟩ = some (.int .i64 x.f0) := (box_cell HBX.out 0).trans rfl
              have p1 : W2.cell? ⟨wo.heap.size, 1, none⟩ = some (.int .i64 x.f1) := (box_cell HBX.out 1).trans rfl
              have p2 : W2.cell? ⟨wo.heap.size, 2, none⟩ = some (.int .i64 x.f2) := (box_cell HBX.out 2).trans rfl
              have p3 : W2.cell? ⟨wo.heap.size, 3, none⟩ = some (.string x.f3) := (box_cell HBX.out 3).trans rfl
              have p4 : W2.cell? ⟨wo.heap.size, 4, none⟩ = some (.bool x.f4) := (box_cell HBX.out 4).trans rfl
              have p5 : W2.cell? ⟨wo.heap.size, 5, none⟩ = some (.int .u64 x.f5.f0) := (box_cell HBX.out 5).trans rfl
              have p6 : W2.cell? ⟨wo.heap.size, 6, none⟩ = some (.int .u64 x.f5.f1) := (box_cell HBX.out 6).trans rfl
              have p7 : W2.cell? ⟨wo.heap.size, 7, none⟩ = some (.int .u64 x.f5.f2) := (box_cell HBX.out 7).trans rfl
              have p8 : W2.cell? ⟨wo.heap.size, 8, none⟩ = some (.int .u64 x.f5.f3) := (box_cell HBX.out 8).trans rfl
              have p9 : W2.cell? ⟨wo.heap.size, 9, none⟩ = some (.int .i64 x.f6) := (box_cell HBX.out 9).trans rfl
              have p10 : W2.cell? ⟨wo.heap.size, 10, none⟩ = some (.int .i64 x.f7) := (box_cell HBX.out 10).trans rfl
              go_wp2
              go_ret2
              refine ⟨?_, HB2.out.2⟩
              rw [HOUT.out, ← HWR.out, HST.out]; rfl
            · have hst2 := HS0.out acc (if_neg cs)
              rw [if_pos HC3.out] at hst2
              have HST := Lib.hid hst2
              clear hst2
              by_cases ct : 0 < t
              · have s0 : decide (0 < t) = true := by simp; omega
                have s1 : (x.f0 != 0) = false := by have q : x.f0 = 0 := Classical.byContradiction fun q => cs ⟨ct, q⟩; simp [q]
                clear cs
                go_wp2_with fail
                go_ret2
                refine ⟨?_, HBA.out.2⟩
                rw [HOUT.out, ← HWR.out, HST.out]; rfl
              · have s0 : decide (0 < t) = false := by simp; omega
                clear cs
                go_wp2_with fail
                go_ret2
                refine ⟨?_, HBA.out.2⟩
                rw [HOUT.out, ← HWR.out, HST.out]; rfl
          · have c3b : decide ((x.f3.size : Int) > 65536) = false := by simp; omega
            have HC3 := Lib.hid (show ¬ x.f3.size > 65536 from c3)
            have HTS := Lib.hid (textE_size x HX.out HRT.out (by omega))
            clear c3
            by_cases cs : 0 < t ∧ x.f0 ≠ 0
            · have s0 : decide (0 < t) = true := by simp; omega
              have s1 : (x.f0 != 0) = true := by simp [cs.2]
              have hst2 := HS0.out (acc ++ [32]) (if_pos cs)
              rw [if_neg HC3.out] at hst2
              have HST := Lib.hid hst2
              have st : 0 < t := cs.1
              clear hst2 cs
              go_wp2_with fail
              clear h0 h1 h2 h3 h4 h5 h6 h7 h8 h9 h10
              refine (put_k w b acc 32 _ HBA.out (by omega)).mono ?_
              rintro e W2 ⟨rfl, hb2, hk2⟩
              have HB2 := Lib.hid hb2
              have HBX := Lib.hid (hk2 _ _ HBOX.out (by simpa using HNE.out) (fun _ _ h => by cases h))
              clear hb2 hk2
              have p0 : W2.cell? ⟨wo.heap.size, 0, none⟩ = some (.int .i64 x.f0) := (box_cell HBX.out 0).trans rfl
              have p1 : W2.cell? ⟨wo.heap.size, 1, none⟩ = some (.int .i64 x.f1) := (box_cell HBX.out 1).trans rfl
              have p2 : W2.cell? ⟨wo.heap.size, 2, none⟩ = some (.int .i64 x.f2) := (box_cell HBX.out 2).trans rfl
              have p3 : W2.cell? ⟨wo.heap.size, 3, none⟩ = some (.string x.f3) := (box_cell HBX.out 3).trans rfl
              have p4 : W2.cell? ⟨wo.heap.size, 4, none⟩ = some (.bool x.f4) := (box_cell HBX.out 4).trans rfl
              have p5 : W2.cell? ⟨wo.heap.size, 5, none⟩ = some (.int .u64 x.f5.f0) := (box_cell HBX.out 5).trans rfl
              have p6 : W2.cell? ⟨wo.heap.size, 6, none⟩ = some (.int .u64 x.f5.f1) := (box_cell HBX.out 6).trans rfl
              have p7 : W2.cell? ⟨wo.heap.size, 7, none⟩ = some (.int .u64 x.f5.f2) := (box_cell HBX.out 7).trans rfl
              have p8 : W2.cell? ⟨wo.heap.size, 8, none⟩ = some (.int .u64 x.f5.f3) := (box_cell HBX.out 8).trans rfl
              have p9 : W2.cell? ⟨wo.heap.size, 9, none⟩ = some (.int .i64 x.f6) := (box_cell HBX.out 9).trans rfl
              have p10 : W2.cell? ⟨wo.heap.size, 10, none⟩ = some (.int .i64 x.f7) := (box_cell HBX.out 10).trans rfl
              go_wp2_with fail
              refine (text_c x HX.out HRT.out (by have := HC3.out; omega) _ (tab_below HT.out HB2.out.2)).mono ?_
              rintro e W3 ⟨rfl, hb3⟩
              have HB3 := Lib.hid (bf_below HB2.out hb3)
              clear hb3
              go_wp2_with fail
              refine (puts_k w b _ (textE x) _ HB3.out (by simp; omega) (by have := HTS.out; omega)).mono ?_
              rintro e W4 ⟨rfl, hb4⟩
              have HB4 := Lib.hid hb4
              clear hb4 HB3
              go_wp2_with fail
              refine (len_c w b _ _ HB4.out).mono ?_
              rintro e W5 ⟨rfl, rfl⟩
              generalize hL : (acc ++ [32]) ++ (textE x).data.toList = L at HB4 HST ⊢
              by_cases c4 : L.length > 65536
              · have c4b : decide ((L.length : Int) > 65536) = true := by simp; omega
                have hout3 := HST.out
                rw [if_pos c4] at hout3
                have HO3 := Lib.hid hout3
                clear c4 hout3
                go_wp2
                go_ret2
                refine ⟨?_, HB4.out.2⟩
                rw [HOUT.out, ← HWR.out, HO3.out]; rfl
              · have c4b : decide ((L.length : Int) > 65536) = false := by simp; omega
                have hout3 := HST.out
                rw [if_neg c4] at hout3
                have HO3 := Lib.hid hout3
                clear hout3
                go_wp2
                go_roundw
                case rel => exact ⟨t + 1, L, by omega, by go_num, by omega, by rw [← HO3.out]; exact HWR.out, HB4.out⟩
                case measure => simp [intOf]; omega
            · have hst2 := HS0.out acc (if_neg cs)
              rw [if_neg HC3.out] at hst2
              have HST := Lib.hid hst2
              clear hst2
              by_cases ct : 0 < t
              · have s0 : decide (0 < t) = true := by simp; omega
                have s1 : (x.f0 != 0) = false := by have q : x.f0 = 0 := Classical.byContradiction fun q => cs ⟨ct, q⟩; simp [q]
                clear cs
                go_wp2_with fail
                refine (text_c x HX.out HRT.out (by have := HC3.out; omega) _ (tab_below HT.out HBA.out.2)).mono ?_
                rintro e W3 ⟨rfl, hb3⟩
                have HB3 := Lib.hid (bf_below HBA.out hb3)
                clear hb3
                go_wp2_with fail
                refine (puts_k w b _ (textE x) _ HB3.out (by omega) (by have := HTS.out; omega)).mono ?_
                rintro e W4 ⟨rfl, hb4⟩
                have HB4 := Lib.hid hb4
                clear hb4 HB3
                go_wp2_with fail
                refine (len_c w b _ _ HB4.out).mono ?_
                rintro e W5 ⟨rfl, rfl⟩
                generalize hL : acc ++ (textE x).data.toList = L at HB4 HST ⊢
                by_cases c4 : L.length > 65536
                · have c4b : decide ((L.length : Int) > 65536) = true := by simp; omega
                  have hout3 := HST.out
                  rw [if_pos c4] at hout3
                  have HO3 := Lib.hid hout3
                  clear c4 hout3
                  go_wp2
                  go_ret2
                  refine ⟨?_, HB4.out.2⟩
                  rw [HOUT.out, ← HWR.out, HO3.out]; rfl
                · have c4b : decide ((L.length : Int) > 65536) = false := by simp; omega
                  have hout3 := HST.out
                  rw [if_neg c4] at hout3
                  have HO3 := Lib.hid hout3
                  clear hout3
                  go_wp2
                  go_roundw
                  case rel => exact ⟨t + 1, L, by omega, by go_num, by omega, by rw [← HO3.out]; exact HWR.out, HB4.out⟩
                  case measure => simp [intOf]; omega
              · have s0 : decide (0 < t) = false := by simp; omega
                clear cs
                go_wp2_with fail
                refine (text_c x HX.out HRT.out (by have := HC3.out; omega) _ (tab_below HT.out HBA.out.2)).mono ?_
                rintro e W3 ⟨rfl, hb3⟩
                have HB3 := Lib.hid (bf_below HBA.out hb3)
                clear hb3
                go_wp2_with fail
                refine (puts_k w b _ (textE x) _ HB3.out (by omega) (by have := HTS.out; omega)).mono ?_
                rintro e W4 ⟨rfl, hb4⟩
                have HB4 := Lib.hid hb4
                clear hb4 HB3
                go_wp2_with fail
                refine (len_c w b _ _ HB4.out).mono ?_
                rintro e W5 ⟨rfl, rfl⟩
                generalize hL : acc ++ (textE x).data.toList = L at HB4 HST ⊢
                by_cases c4 : L.length > 65536
                · have c4b : decide ((L.length : Int) > 65536) = true := by simp; omega
                  have hout3 := HST.out
                  rw [if_pos c4] at hout3
                  have HO3 := Lib.hid hout3
                  clear c4 hout3
                  go_wp2
                  go_ret2
                  refine ⟨?_, HB4.out.2⟩
                  rw [HOUT.out, ← HWR.out, HO3.out]; rfl
                · have c4b : decide ((L.length : Int) > 65536) = false := by simp; omega
                  have hout3 := HST.out
                  rw [if_neg c4] at hout3
                  have HO3 := Lib.hid hout3
                  clear hout3
                  go_wp2
                  go_roundw
                  case rel => exact ⟨t + 1, L, by omega, by go_num, by omega, by rw [← HO3.out]; exact HWR.out, HB4.out⟩
                  case measure => simp [intOf]; omega
        · have hkt : decide ((t : Int) < (l.length : Int)) = false := by simp; omega
          have e : wrR l l.length 0 [] = (⟨acc.toArray⟩, 0) := by rw [← HWR.out, show l.length - t = 0 by omega]; rfl
          have HE := Lib.hid e
          clear e
          go_wp2_with fail
          refine (told_k w b acc _ HQ.out).mono ?_
          rintro e W2 ⟨rfl, hb2⟩
          have HB2 := Lib.hid hb2; clear hb2
          go_wp2
          go_ret2
          refine ⟨?_, HB2.out⟩
          rw [HOUT.out, HE.out]; rfl
def okD (x : S26) : Prop := x.f3.size ≤ 140737488351232 ∧ (0 ≤ x.f5.f0 ∧ x.f5.f0 < 18446744073709551616) ∧ (0 ≤ x.f5.f1 ∧ x.f5.f1 < 18446744073709551616) ∧ (0 ≤ x.f5.f2 ∧ x.f5.f2 < 18446744073709551616) ∧ (0 ≤ x.f5.f3 ∧ x.f5.f3 < 18446744073709551616)
instance (x : S26) : Decidable (okD x) := by unfold okD; infer_instance
theorem okD_iff (x : S26) : okD x ↔ OkT x := by
  constructor
  · rintro ⟨h0, h1, h2, h3, h4⟩
    refine ⟨h0, ⟨x.f5.f0.toNat, x.f5.f1.toNat, x.f5.f2.toNat, x.f5.f3.toNat⟩, ?_, ?_⟩
    · unfold Cls.ok w64; dsimp only; omega
    · obtain ⟨x0, x1, x2, x3, x4, ⟨y0, y1, y2, y3⟩, x6, x7⟩ := x
      dsimp only at h1 h2 h3 h4 ⊢
      rw [Int.toNat_of_nonneg h1.1, Int.toNat_of_nonneg h2.1, Int.toNat_of_nonneg h3.1, Int.toNat_of_nonneg h4.1]
  · rintro ⟨h0, c, hc, he⟩
    unfold Cls.ok w64 at hc
    unfold okD
    rw [he]
    dsimp only
    omega
def writeF (l : List S26) : Option (ByteArray × Int) := if l.length ≤ 1048576 ∧ ∀ x ∈ l, okD x then some (wrOut l) else none
theorem write_k (A : Option Addr) (c : Nat) (l : List S26) (r1 : ByteArray) (r2 : Int) (w : World) (hr : Kd.C k26 w A l.length l) (hc : l.length ≤ c) (h : writeF l = some (r1, r2)) (ht : TabOk w) :
    Calls Tryd.prog 11 #[.slice A l.length c] w fun e w' => e = .returned (.tuple #[.string r1, .int .i64 r2]) ∧ Below w.heap.size w w' := by
  unfold writeF at h
  split at h
  · next q =>
    have h := Option.some.inj h
    have := write_c A c l w hr hc q.1 (fun x hx => (okD_iff x).1 (q.2 x hx)) ht
    rw [h] at this
    exact this
  · cases h
end Go.Proofs.YtldjdcdoegjmoaaDoor.Wr
namespace Go.Proofs.YtldjdcdoegjmoaaDoor.P
open Go.RowKit Go.Proofs.YtldjdcdoegjmoaaDoorW.PrintWords
theorem info26 : (Tryd.prog.info? 26).map (fun i => (i.zero, i.size, i.bytes)) = some (some (.agg #[(.int .i64 0), (.int .i64 0), (.int .i64 0), (.string ⟨#[]⟩), (.bool false), (.int .u64 0), (.int .u64 0), (.int .u64 0), (.int .u64 0), (.int .i64 0), (.int .i64 0)]), 11, 96) := by kernel_rfl
end Go.Proofs.YtldjdcdoegjmoaaDoor.P

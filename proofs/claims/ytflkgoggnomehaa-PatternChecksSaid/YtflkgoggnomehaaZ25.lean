import Derived.Test.YtflkgoggnomehaaZ4
import Derived.Test.YtflkgoggnomehaaZ5
import Derived.Test.YtflkgoggnomehaaZ14
import Derived.Test.YtflkgoggnomehaaZ19
import Derived.Test.YtflkgoggnomehaaZ20
import Derived.Test.YtflkgoggnomehaaZ24
set_option linter.unusedVariables false
set_option linter.unusedSimpArgs false
namespace Go.Proofs.Ytflkgoggnomehaa.Dp
open Go.RowKit Go.Proofs.Ytflkgoggnomehaa Go.Proofs.Ytflkgoggnomehaa.P Go.Proofs.Ytflkgoggnomehaa.Pt Go.Proofs.YtflkgoggnomehaaW.PrintWords Go.Proofs.YtflkgoggnomehaaW.PrintLast Go.Proofs.YtflkgoggnomehaaW.PrintMore
attribute [local go_sem] max2_int min2_int max_two min_two
def hv (t : RT) : List Value := [.int .i64 (t.dep : Int), .int .i64 t.top]
def hrow (st : List RT) : List Value := st.reverse.flatMap hv
theorem hrow_cons (a : RT) (r : List RT) : hrow (a :: r) = hrow r ++ hv a := by simp [hrow]
theorem hrow_len : ∀ st : List RT, (hrow st).length = st.length * 2
  | [] => rfl
  | a :: r => by rw [hrow_cons, List.length_append, hrow_len r, List.length_cons]; simp [hv]; omega
theorem info142' : (Try.prog.info? 142).map (fun i => (i.zero, i.size, i.bytes)) = some (some (.agg #[.int .i64 0, .int .i64 0]), 2, 16) := by kernel_rfl
def inD (b : Bool) (d : Int) : Int := if b = true then d + 1 else d
theorem in_d (d o : Int) (b : Bool) (W : World) (h0 : 0 ≤ d) (h1 : d ≤ 10000) : Calls Try.prog 71 #[.agg #[.int .i64 d, .int .i64 o], .bool b] W fun e W' => e = .returned (.int .i64 (inD b d)) ∧ Below W.heap.size W W' := by
  refine pattern_depth_1.calls d o b (inD b d) W ?_
  unfold pattern_depth_1.f inD
  cases b with
  | true => rw [if_pos rfl, if_pos rfl, wr (by omega) (by omega)]
  | false => rfl
theorem mx_nat (a b : Nat) : mx (a : Int) (b : Int) = ((max a b : Nat) : Int) := by unfold mx; split <;> omega
theorem in_row (a : RT) (b : Bool) (h : b = (a.top == 3 || a.top == 4)) : inD b (a.dep : Int) = ((a.dep + a.row : Nat) : Int) := by
  subst h; cases a <;> (simp [inD, RT.row, RT.top])
theorem in_alt (a : RT) : inD (a.top == 4) (a.dep : Int) = ((a.dep + a.isAlt : Nat) : Int) := by
  cases a <;> (simp [inD, RT.isAlt, RT.top])
def chk2' (o : Option (List RT)) : Int := match o with
  | some [t] => if t.dep > 100 then 3 else 0
  | _ => 6
/-- The stack's row. -/
structure HI (w : World) (p : List S45) (i : Nat) (st : List RT) (A : Option Addr) (c : Nat) (W : World) : Prop where
  run : run (p.take i) [] = some st
  own : W.ownsRow w.heap.size 142 2 (.slice A st.length c) st.length (hrow st)
  bel : Below w.heap.size w W
theorem encs_le : ∀ st : List RT, st.length ≤ (encs_ st).length
  | [] => Nat.zero_le _
  | t :: r => by
    have := encs_le r
    have h := t.len
    have := t.pos
    show r.length + 1 ≤ (encs_ r ++ t.enc).length
    rw [List.length_append]; omega
theorem HI.len {w : World} {p : List S45} {i : Nat} {st : List RT} {A : Option Addr} {c : Nat} {W : World} (h : HI w p i st A c W) (hi : i ≤ p.length) : st.length ≤ i := by
  have h1 := encs_le st
  rw [run_encs _ _ _ h.run, show encs_ [] = [] from rfl, List.nil_append, List.length_take] at h1
  omega
theorem encs_size : ∀ (st : List RT) (a : RT), a ∈ st → a.size ≤ (encs_ st).length
  | t :: r, a, h => by
    show a.size ≤ (encs_ r ++ t.enc).length
    rw [List.length_append, t.len]
    rcases List.mem_cons.1 h with rfl | h
    · omega
    · have := encs_size r a h; omega
theorem HI.dep {w : World} {p : List S45} {i : Nat} {st : List RT} {A : Option Addr} {c : Nat} {W : World} (h : HI w p i st A c W) (hp : p.length ≤ 4096) {a : RT} (ha : a ∈ st) : a.dep ≤ 4096 := by
  have h1 := encs_size st a ha
  rw [run_encs _ _ _ h.run, show encs_ [] = [] from rfl, List.nil_append, List.length_take] at h1
  have := a.dep_le
  omega
theorem cells_half {W : World} {B c n : Nat} {A : Option Addr} {xs : List Value} (h : W.ownsRow B 142 2 (.slice A n c) n xs) {j : Nat} (hj : j < n) : ∃ g, A = some ⟨g, 0, none⟩ ∧ g < W.heap.size ∧ W.cell? ⟨g, j * 2, none⟩ = xs[j * 2]? ∧ W.cell? ⟨g, j * 2 + 1, none⟩ = xs[j * 2 + 1]? := by
  obtain ⟨g, c', e, _⟩ := (Fr.told_own h).cons (by omega)
  cases e
  exact ⟨g, rfl, own_lt h g rfl, World.ownsRow.cellAt h _ (by omega), World.ownsRow.cellAt h _ (by omega)⟩
theorem hrow_at (r : List RT) (a : RT) (l : List Value) : (hrow r ++ (hv a ++ l))[r.length * 2]? = some (.int .i64 (a.dep : Int)) ∧ (hrow r ++ (hv a ++ l))[r.length * 2 + 1]? = some (.int .i64 a.top) := by
  have h := hrow_len r
  constructor
  · rw [List.getElem?_append_right (by omega), h, Nat.sub_self]; rfl
  · rw [List.getElem?_append_right (by omega), h, Nat.add_sub_cancel_left]; rfl
theorem info_size : (Try.prog.info? 142).map (·.size) = some 2 := by kernel_rfl
/-- heap[:k] -/
theorem cut_to (A : Option Addr) (n c m : Nat) (hm : m ≤ n) (hc : n ≤ c) : ∀ W : World, (Instr.slice 140 (.slice A n c) none (some (.int .i64 (m : Int))) none).run Try.prog W = .ok (.slice A m c) W := by
  obtain ⟨i, hi, hsz⟩ := Option.map_eq_some_iff.1 info_size
  have := cut_cap (P := Try.prog) 140 142 .i64 Try.underlying140 hi A n c (m : Int) (Int.natCast_nonneg _) (by omega) hc
  rw [Int.toNat_natCast] at this
  exact this
theorem one_hv (t : RT) : ∀ u ∈ hv t, u.oneCell' = true := by
  intro u hu
  unfold hv at hu
  simp only [List.mem_cons, List.not_mem_nil, or_false] at hu
  rcases hu with rfl | rfl <;> rfl
set_option maxRecDepth 100000 in
set_option maxHeartbeats 8000000 in
theorem depth_c (A : Option Addr) (c : Nat) (p : List S45) (t : RT) (w : World) (hr : Kd.C k45 w A p.length p) (hc : p.length ≤ c) (hl : p.length ≤ 4096) (ht : run p [] = some [t]) :
    Calls Try.prog 50 #[.slice A p.length c] w fun e w' => e = .returned (.int .i64 (t.dep : Int)) ∧ Below w.heap.size w w' := by
  have HR := Lib.hid hr
  have HT := Lib.hid ht
  clear hr ht
  go_enter Try.func50, Try.ntmps50
  go_wp2_with fail
  go_loopw [3, 11] (fun v i wr => ∃ (k : Nat) (st : List RT) (B : Option Addr) (cb : Nat), k ≤ p.length ∧ i = .int .i64 (k : Int) ∧ v = .slice B st.length cb ∧ HI w p k st B cb wr) (fun _ i _ => p.length - (intOf i).toNat)
  case atStart => exact ⟨0, [], none, 0, by omega, rfl, rfl, ⟨rfl, own_nil _ _ _ _, Below.refl _ _⟩⟩
  case round =>
    obtain ⟨k, st, B, cb, hk, rfl, rfl, hI⟩ := hrel
    obtain ⟨wo, rfl⟩ : ∃ wo : World, wo = wr := ⟨_, rfl⟩
    have hst := hI.len hk
    have hcb := own_le hI.own
    have HH := Lib.hid hI
    clear hI
    by_cases hlt : k < p.length
    · obtain ⟨x, r, hbare, hstp, hrun⟩ := next_stack HT.out hlt HH.out.run
      obtain ⟨ad, rfl, n0, n1, n2, n3, n4⟩ := at_T45 (Kd.C_below HR.out HH.out.bel) (k : Int) (by omega) (by omega)
      rw [Int.toNat_natCast] at n0 n1 n2 n3 n4
      have hz : (0 : Int) ≤ (k : Int) ∧ (k : Int) < (p.length : Int) := by omega
      have hnod : Q13 p (k : Int) = nod p k := rfl
      rw [hnod] at n0 n1 n2 n3 n4
      clear hnod
      have hways := stp_ways hstp
      generalize hnd : nod p k = nn at hways n0 n1 n2 n3 n4
      have HRUN := Lib.hid hrun
      clear hstp hrun hnd hbare
      rcases hways with ⟨hop, hx, hr⟩ | ⟨hop, hx, hr⟩ | ⟨hop, hx, hr⟩ | ⟨hop, a, hs, hx⟩ | ⟨hop, a, b, hs, hx⟩ | ⟨hop, a, b, hs, hx⟩
      · obtain ⟨o0, ⟨z0, z1, z2, z3⟩⟩ := nn
        dsimp only at hop n0 n1 n2 n3 n4
        subst hop
        subst hx
        subst hr
        have HA := Lib.hid (parts_f 0 0)
        have hcutt := cut_to B r.length cb r.length (Nat.le_refl _) hcb
        go_wp2_with fail
        refine (pattern_parts.calls 1 0 0 _ HA.out).mono ?_
        rintro e w2 ⟨rfl, ⟨nd, rfl⟩⟩
        have hsz0 : ((wo.alloc (.cells #[.int .i64 0, .int .u64 z0, .int .u64 z1, .int .u64 z2, .int .u64 z3] 45)).drewN nd).heap.size = wo.heap.size + 1 := by simp
        go_upto_region 17 with (fail)
        have hB5 : Below w.heap.size w (((wo.alloc (.cells #[.int .i64 0, .int .u64 z0, .int .u64 z1, .int .u64 z2, .int .u64 z3] 45)).drewN nd).alloc (.cells #[.int .i64 0, .int .i64 0] 142)) := (Q7 (HH.out.bel.alloc HH.out.bel.size _) nd).alloc (by rw [hsz0]; have := HH.out.bel.size; omega) _
        have hX5 : (((wo.alloc (.cells #[.int .i64 0, .int .u64 z0, .int .u64 z1, .int .u64 z2, .int .u64 z3] 45)).drewN nd).alloc (.cells #[.int .i64 0, .int .i64 0] 142)).heap[wo.heap.size + 1]? = some (.cells #[.int .i64 0, .int .i64 0] 142 (0, 0)) := by rw [← hsz0]; exact heap_alloc_new _ _
        have hO5 : (((wo.alloc (.cells #[.int .i64 0, .int .u64 z0, .int .u64 z1, .int .u64 z2, .int .u64 z3] 45)).drewN nd).alloc (.cells #[.int .i64 0, .int .i64 0] 142)).ownsRow w.heap.size 142 2 (.slice B r.length cb) r.length (hrow r) := (Fr.own_move (HH.out.own.alloc _) fun _ _ => rfl : ((wo.alloc (.cells #[.int .i64 0, .int .u64 z0, .int .u64 z1, .int .u64 z2, .int .u64 z3] 45)).drewN nd).ownsRow w.heap.size 142 2 (.slice B r.length cb) r.length (hrow r)).alloc _
        clear hsz0
        generalize ((wo.alloc (.cells #[.int .i64 0, .int .u64 z0, .int .u64 z1, .int .u64 z2, .int .u64 z3] 45)).drewN nd).alloc (.cells #[.int .i64 0, .int .i64 0] 142) = w5 at hB5 hX5 hO5 ⊢
        have hO6 := own_take hO5 (m := r.length) (by omega)
        rw [List.take_of_length_le (by rw [hrow_len]; omega)] at hO6
        have p0 : w5.cell? ⟨wo.heap.size + 1, 0, none⟩ = some (.int .i64 (0)) := Q10 hX5 0
        have p1 : w5.cell? ⟨wo.heap.size + 1, 1, none⟩ = some (.int .i64 0) := Q10 hX5 1
        have HX5 := Lib.hid hX5; have HO6 := Lib.hid hO6; have HB5 := Lib.hid hB5
        have HRL := Lib.hid (show r.length ≤ 4096 by omega)
        have HNE := Lib.hid (show some (wo.heap.size + 1) ≠ (Value.slice B r.length cb).ownBlock from fun e => by have := own_lt (own_take HH.out.own (m := r.length) (by omega)) _ e.symm; omega)
        clear hX5 hO5 hO6 hB5
        go_wp2_with fail
        refine start_ (n := 7) (S := fun w' => w'.cell? ⟨wo.heap.size + 1, 0, none⟩ = some (.int .i64 (0)) ∧ w'.cell? ⟨wo.heap.size + 1, 1, none⟩ = some (.int .i64 0)) (ds := []) #[ff, ff, ff, ff, ff, ff, ff] (by kernel_rfl) rfl rfl ⟨p0, p1⟩ (fun hHeld => ?_)
        clear p0 p1
        refine Q26 (i := 0) (N := some 112) (v := ?_) (a' := ?_) #[tt, ff, ff, ff, ff, ff, ff] rfl rfl (by kernel_rfl) (fun _ _ _ h => h) (Or.inl ⟨by rfl, ?_⟩) ?_ ?_; rotate_left; intro w'; go_simp; with_reducible rfl; rotate_left; simp only [pS]; rfl
        refine Q26 (i := 1) (N := some 113) (v := ?_) (a' := ?_) #[tt, tt, ff, ff, ff, ff, ff] rfl rfl (by kernel_rfl) (fun _ _ _ h => h) (Or.inl ⟨by rfl, ?_⟩) ?_ ?_; rotate_left; intro w'; go_simp; with_reducible rfl; rotate_left; simp only [pS]; rfl
        refine Q26 (i := 2) (N := some 114) (v := ?_) (a' := ?_) #[tt, tt, tt, ff, ff, ff, ff] rfl rfl (by kernel_rfl) (fun _ _ _ h => h) (Or.inl ⟨by rfl, ?_⟩) ?_ ?_; rotate_left; intro w'; go_simp; with_reducible rfl; rotate_left; simp only [pS]; rfl
        refine take_ (i := 3) (N := some 115) (v := ?_) (a' := ?_) #[tt, tt, tt, tt, ff, ff, ff] rfl rfl (by kernel_rfl) (fun _ _ _ h => h) (Or.inl ⟨by rfl, ?_⟩) hHeld ?_ ?_; rotate_left; rintro w' ⟨s0, s1⟩; go_simp; with_reducible rfl; rotate_left; simp only [pS]; rfl
        refine one_ (i := 4) (N := some 116) #[tt, tt, tt, tt, tt, ff, ff] rfl rfl (by kernel_rfl) (by decide) (fun K hK => ?_)
        refine value_ (w1 := ?_) (v := ?_) (by rfl) rfl ?_ ?_
        rotate_left 2
        · go_simp
          constructor
          · rfl
          · rfl
        refine hK.out _ _ ⟨(Q10 (Q15 (Q17 HX5.out) _) 0).trans rfl, (Q10 (Q15 (Q17 HX5.out) _) 1).trans rfl⟩ (fun hHeld => ?_)
        clear hK K
        refine norm_ (a' := ?_) ?_ ?_; rotate_left; show Act.put _ (some 116) _ = _; simp only [pS]; rfl
        refine one_ (i := 5) (N := some 117) #[tt, tt, tt, tt, tt, tt, ff] rfl rfl (by kernel_rfl) (by decide) (fun K hK => ?_)
        refine step_append_cells (w0 := w) (W := w5.drew) w.heap.size (by rfl) (.tmp 114) (.tmp 116) 140 142 _ 2 16 rfl Try.underlying140 info142' rfl (by decide) (by decide) (.slice B r.length cb) r.length (hrow r) [.int .i64 (0), .int .i64 0] rfl rfl rfl (one_hv RT.none) (Fr.own_move HO6.out fun _ _ => rfl) (below_drew HB5.out) HB5.out.size (by have := HRL.out; omega) ?_
        intro v1 w6 ho1 hb1 hg1 hat1
        obtain ⟨A5, c5, rfl⟩ := own_slice ho1
        have hx1 := blk_grown (Q17 HX5.out) hg1 HNE.out
        have hS : w6.cell? ⟨wo.heap.size + 1, 0, none⟩ = some (.int .i64 (0)) ∧ w6.cell? ⟨wo.heap.size + 1, 1, none⟩ = some (.int .i64 0) := ⟨Q10 hx1 0, Q10 hx1 1⟩
        have HO7 := Lib.hid ho1; have HB7 := Lib.hid hb1
        clear ho1 hb1 hg1 hat1 hx1
        refine hK.out _ _ hS (fun hHeld => ?_)
        clear hK K
        refine norm_ (a' := ?_) ?_ ?_; rotate_left; show Act.put _ (some 117) _ = _; simp only [pS]; rfl
        refine Q26 (i := 6) (N := some 3) (v := ?_) (a' := ?_) #[tt, tt, tt, tt, tt, tt, tt] rfl rfl (by kernel_rfl) (fun _ _ _ h => h) (Or.inl ⟨by rfl, ?_⟩) ?_ ?_; rotate_left; intro w'; go_simp; with_reducible rfl; rotate_left; simp only [pS]; rfl
        refine done_ (by kernel_rfl) ?_
        go_wp2
        go_roundw
        case rel => exact ⟨k + 1, RT.none :: r, A5, c5, by omega, by go_num, rfl, HRUN.out, by rw [hrow_cons]; exact HO7.out, HB7.out⟩
        case measure => simp [intOf]; omega
      · obtain ⟨o0, ⟨z0, z1, z2, z3⟩⟩ := nn
        dsimp only at hop n0 n1 n2 n3 n4
        subst hop
        subst hx
        subst hr
        have HA := Lib.hid (parts_f 0 1)
        have hcutt := cut_to B r.length cb r.length (Nat.le_refl _) hcb
        go_wp2_with fail
        refine (pattern_parts.calls 1 1 0 _ HA.out).mono ?_
        rintro e w2 ⟨rfl, ⟨nd, rfl⟩⟩
        have hsz0 : ((wo.alloc (.cells #[.int .i64 1, .int .u64 z0, .int .u64 z1, .int .u64 z2, .int .u64 z3] 45)).drewN nd).heap.size = wo.heap.size + 1 := by simp
        go_upto_region 17 with (fail)
        have hB5 : Below w.heap.size w (((wo.alloc (.cells #[.int .i64 1, .int .u64 z0, .int .u64 z1, .int .u64 z2, .int .u64 z3] 45)).drewN nd).alloc (.cells #[.int .i64 1, .int .i64 1] 142)) := (Q7 (HH.out.bel.alloc HH.out.bel.size _) nd).alloc (by rw [hsz0]; have := HH.out.bel.size; omega) _
        have hX5 : (((wo.alloc (.cells #[.int .i64 1, .int .u64 z0, .int .u64 z1, .int .u64 z2, .int .u64 z3] 45)).drewN nd).alloc (.cells #[.int .i64 1, .int .i64 1] 142)).heap[wo.heap.size + 1]? = some (.cells #[.int .i64 1, .int .i64 1] 142 (0, 0)) := by rw [← hsz0]; exact heap_alloc_new _ _
        have hO5 : (((wo.alloc (.cells #[.int .i64 1, .int .u64 z0, .int .u64 z1, .int .u64 z2, .int .u64 z3] 45)).drewN nd).alloc (.cells #[.int .i64 1, .int .i64 1] 142)).ownsRow w.heap.size 142 2 (.slice B r.length cb) r.length (hrow r) := (Fr.own_move (HH.out.own.alloc _) fun _ _ => rfl : ((wo.alloc (.cells #[.int .i64 1, .int .u64 z0, .int .u64 z1, .int .u64 z2, .int .u64 z3] 45)).drewN nd).ownsRow w.heap.size 142 2 (.slice B r.length cb) r.length (hrow r)).alloc _
        clear hsz0
        generalize ((wo.alloc (.cells #[.int .i64 1, .int .u64 z0, .int .u64 z1, .int .u64 z2, .int .u64 z3] 45)).drewN nd).alloc (.cells #[.int .i64 1, .int .i64 1] 142) = w5 at hB5 hX5 hO5 ⊢
        have hO6 := own_take hO5 (m := r.length) (by omega)
        rw [List.take_of_length_le (by rw [hrow_len]; omega)] at hO6
        have p0 : w5.cell? ⟨wo.heap.size + 1, 0, none⟩ = some (.int .i64 (1)) := Q10 hX5 0
        have p1 : w5.cell? ⟨wo.heap.size + 1, 1, none⟩ = some (.int .i64 1) := Q10 hX5 1
        have HX5 := Lib.hid hX5; have HO6 := Lib.hid hO6; have HB5 := Lib.hid hB5
        have HRL := Lib.hid (show r.length ≤ 4096 by omega)
        have HNE := Lib.hid (show some (wo.heap.size + 1) ≠ (Value.slice B r.length cb).ownBlock from fun e => by have := own_lt (own_take HH.out.own (m := r.length) (by omega)) _ e.symm; omega)
        clear hX5 hO5 hO6 hB5
        go_wp2_with fail
        refine start_ (n := 7) (S := fun w' => w'.cell? ⟨wo.heap.size + 1, 0, none⟩ = some (.int .i64 (1)) ∧ w'.cell? ⟨wo.heap.size + 1, 1, none⟩ = some (.int .i64 1)) (ds := []) #[ff, ff, ff, ff, ff, ff, ff] (by kernel_rfl) rfl rfl ⟨p0, p1⟩ (fun hHeld => ?_)
        clear p0 p1
        refine Q26 (i := 0) (N := some 112) (v := ?_) (a' := ?_) #[tt, ff, ff, ff, ff, ff, ff] rfl rfl (by kernel_rfl) (fun _ _ _ h => h) (Or.inl ⟨by rfl, ?_⟩) ?_ ?_; rotate_left; intro w'; go_simp; with_reducible rfl; rotate_left; simp only [pS]; rfl
        refine Q26 (i := 1) (N := some 113) (v := ?_) (a' := ?_) #[tt, tt, ff, ff, ff, ff, ff] rfl rfl (by kernel_rfl) (fun _ _ _ h => h) (Or.inl ⟨by rfl, ?_⟩) ?_ ?_; rotate_left; intro w'; go_simp; with_reducible rfl; rotate_left; simp only [pS]; rfl
        refine Q26 (i := 2) (N := some 114) (v := ?_) (a' := ?_) #[tt, tt, tt, ff, ff, ff, ff] rfl rfl (by kernel_rfl) (fun _ _ _ h => h) (Or.inl ⟨by rfl, ?_⟩) ?_ ?_; rotate_left; intro w'; go_simp; with_reducible rfl; rotate_left; simp only [pS]; rfl
        refine take_ (i := 3) (N := some 115) (v := ?_) (a' := ?_) #[tt, tt, tt, tt, ff, ff, ff] rfl rfl (by kernel_rfl) (fun _ _ _ h => h) (Or.inl ⟨by rfl, ?_⟩) hHeld ?_ ?_; rotate_left; rintro w' ⟨s0, s1⟩; go_simp; with_reducible rfl; rotate_left; simp only [pS]; rfl
        refine one_ (i := 4) (N := some 116) #[tt, tt, tt, tt, tt, ff, ff] rfl rfl (by kernel_rfl) (by decide) (fun K hK => ?_)
        refine value_ (w1 := ?_) (v := ?_) (by rfl) rfl ?_ ?_
        rotate_left 2
        · go_simp
          constructor
          · rfl
          · rfl
        refine hK.out _ _ ⟨(Q10 (Q15 (Q17 HX5.out) _) 0).trans rfl, (Q10 (Q15 (Q17 HX5.out) _) 1).trans rfl⟩ (fun hHeld => ?_)
        clear hK K
        refine norm_ (a' := ?_) ?_ ?_; rotate_left; show Act.put _ (some 116) _ = _; simp only [pS]; rfl
        refine one_ (i := 5) (N := some 117) #[tt, tt, tt, tt, tt, tt, ff] rfl rfl (by kernel_rfl) (by decide) (fun K hK => ?_)
        refine step_append_cells (w0 := w) (W := w5.drew) w.heap.size (by rfl) (.tmp 114) (.tmp 116) 140 142 _ 2 16 rfl Try.underlying140 info142' rfl (by decide) (by decide) (.slice B r.length cb) r.length (hrow r) [.int .i64 (1), .int .i64 1] rfl rfl rfl (one_hv RT.empty) (Fr.own_move HO6.out fun _ _ => rfl) (below_drew HB5.out) HB5.out.size (by have := HRL.out; omega) ?_
        intro v1 w6 ho1 hb1 hg1 hat1
        obtain ⟨A5, c5, rfl⟩ := own_slice ho1
        have hx1 := blk_grown (Q17 HX5.out) hg1 HNE.out
        have hS : w6.cell? ⟨wo.heap.size + 1, 0, none⟩ = some (.int .i64 (1)) ∧ w6.cell? ⟨wo.heap.size + 1, 1, none⟩ = some (.int .i64 1) := ⟨Q10 hx1 0, Q10 hx1 1⟩
        have HO7 := Lib.hid ho1; have HB7 := Lib.hid hb1
        clear ho1 hb1 hg1 hat1 hx1
        refine hK.out _ _ hS (fun hHeld => ?_)
        clear hK K
        refine norm_ (a' := ?_) ?_ ?_; rotate_left; show Act.put _ (some 117) _ = _; simp only [pS]; rfl
        refine Q26 (i := 6) (N := some 3) (v := ?_) (a' := ?_) #[tt, tt, tt, tt, tt, tt, tt] rfl rfl (by kernel_rfl) (fun _ _ _ h => h) (Or.inl ⟨by rfl, ?_⟩) ?_ ?_; rotate_left; intro w'; go_simp; with_reducible rfl; rotate_left; simp only [pS]; rfl
        refine done_ (by kernel_rfl) ?_
        go_wp2
        go_roundw
        case rel => exact ⟨k + 1, RT.empty :: r, A5, c5, by omega, by go_num, rfl, HRUN.out, by rw [hrow_cons]; exact HO7.out, HB7.out⟩
        case measure => simp [intOf]; omega
      · obtain ⟨o0, ⟨z0, z1, z2, z3⟩⟩ := nn
        dsimp only at hop hx n0 n1 n2 n3 n4
        subst hop
        subst hx
        subst hr
        have HA := Lib.hid (parts_f 0 2)
        have hcutt := cut_to B r.length cb r.length (Nat.le_refl _) hcb
        go_wp2_with fail
        refine (pattern_parts.calls 1 2 0 _ HA.out).mono ?_
        rintro e w2 ⟨rfl, ⟨nd, rfl⟩⟩
        have hsz0 : ((wo.alloc (.cells #[.int .i64 2, .int .u64 z0, .int .u64 z1, .int .u64 z2, .int .u64 z3] 45)).drewN nd).heap.size = wo.heap.size + 1 := by simp
        go_upto_region 17 with (fail)
        have hB5 : Below w.heap.size w (((wo.alloc (.cells #[.int .i64 2, .int .u64 z0, .int .u64 z1, .int .u64 z2, .int .u64 z3] 45)).drewN nd).alloc (.cells #[.int .i64 0, .int .i64 2] 142)) := (Q7 (HH.out.bel.alloc HH.out.bel.size _) nd).alloc (by rw [hsz0]; have := HH.out.bel.size; omega) _
        have hX5 : (((wo.alloc (.cells #[.int .i64 2, .int .u64 z0, .int .u64 z1, .int .u64 z2, .int .u64 z3] 45)).drewN nd).alloc (.cells #[.int .i64 0, .int .i64 2] 142)).heap[wo.heap.size + 1]? = some (.cells #[.int .i64 0, .int .i64 2] 142 (0, 0)) := by rw [← hsz0]; exact heap_alloc_new _ _
        have hO5 : (((wo.alloc (.cells #[.int .i64 2, .int .u64 z0, .int .u64 z1, .int .u64 z2, .int .u64 z3] 45)).drewN nd).alloc (.cells #[.int .i64 0, .int .i64 2] 142)).ownsRow w.heap.size 142 2 (.slice B r.length cb) r.length (hrow r) := (Fr.own_move (HH.out.own.alloc _) fun _ _ => rfl : ((wo.alloc (.cells #[.int .i64 2, .int .u64 z0, .int .u64 z1, .int .u64 z2, .int .u64 z3] 45)).drewN nd).ownsRow w.heap.size 142 2 (.slice B r.length cb) r.length (hrow r)).alloc _
        clear hsz0
        generalize ((wo.alloc (.cells #[.int .i64 2, .int .u64 z0, .int .u64 z1, .int .u64 z2, .int .u64 z3] 45)).drewN nd).alloc (.cells #[.int .i64 0, .int .i64 2] 142) = w5 at hB5 hX5 hO5 ⊢
        have hO6 := own_take hO5 (m := r.length) (by omega)
        rw [List.take_of_length_le (by rw [hrow_len]; omega)] at hO6
        have p0 : w5.cell? ⟨wo.heap.size + 1, 0, none⟩ = some (.int .i64 (0)) := Q10 hX5 0
        have p1 : w5.cell? ⟨wo.heap.size + 1, 1, none⟩ = some (.int .i64 2) := Q10 hX5 1
        have HX5 := Lib.hid hX5; have HO6 := Lib.hid hO6; have HB5 := Lib.hid hB5
        have HRL := Lib.hid (show r.length ≤ 4096 by omega)
        have HNE := Lib.hid (show some (wo.heap.size + 1) ≠ (Value.slice B r.length cb).ownBlock from fun e => by have := own_lt (own_take HH.out.own (m := r.length) (by omega)) _ e.symm; omega)
        clear hX5 hO5 hO6 hB5
        go_wp2_with fail
        refine start_ (n := 7) (S := fun w' => w'.cell? ⟨wo.heap.size + 1, 0, none⟩ = some (.int .i64 (0)) ∧ w'.cell? ⟨wo.heap.size + 1, 1, none⟩ = some (.int .i64 2)) (ds := []) #[ff, ff, ff, ff, ff, ff, ff] (by kernel_rfl) rfl rfl ⟨p0, p1⟩ (fun hHeld => ?_)
        clear p0 p1
        refine Q26 (i := 0) (N := some 112) (v := ?_) (a' := ?_) #[tt, ff, ff, ff, ff, ff, ff] rfl rfl (by kernel_rfl) (fun _ _ _ h => h) (Or.inl ⟨by rfl, ?_⟩) ?_ ?_; rotate_left; intro w'; go_simp; with_reducible rfl; rotate_left; simp only [pS]; rfl
        refine Q26 (i := 1) (N := some 113) (v := ?_) (a' := ?_) #[tt, tt, ff, ff, ff, ff, ff] rfl rfl (by kernel_rfl) (fun _ _ _ h => h) (Or.inl ⟨by rfl, ?_⟩) ?_ ?_; rotate_left; intro w'; go_simp; with_reducible rfl; rotate_left; simp only [pS]; rfl
        refine Q26 (i := 2) (N := some 114) (v := ?_) (a' := ?_) #[tt, tt, tt, ff, ff, ff, ff] rfl rfl (by kernel_rfl) (fun _ _ _ h => h) (Or.inl ⟨by rfl, ?_⟩) ?_ ?_; rotate_left; intro w'; go_simp; with_reducible rfl; rotate_left; simp only [pS]; rfl
        refine take_ (i := 3) (N := some 115) (v := ?_) (a' := ?_) #[tt, tt, tt, tt, ff, ff, ff] rfl rfl (by kernel_rfl) (fun _ _ _ h => h) (Or.inl ⟨by rfl, ?_⟩) hHeld ?_ ?_; rotate_left; rintro w' ⟨s0, s1⟩; go_simp; with_reducible rfl; rotate_left; simp only [pS]; rfl
        refine one_ (i := 4) (N := some 116) #[tt, tt, tt, tt, tt, ff, ff] rfl rfl (by kernel_rfl) (by decide) (fun K hK => ?_)
        refine value_ (w1 := ?_) (v := ?_) (by rfl) rfl ?_ ?_
        rotate_left 2
        · go_simp
          constructor
          · rfl
          · rfl
        refine hK.out _ _ ⟨(Q10 (Q15 (Q17 HX5.out) _) 0).trans rfl, (Q10 (Q15 (Q17 HX5.out) _) 1).trans rfl⟩ (fun hHeld => ?_)
        clear hK K
        refine norm_ (a' := ?_) ?_ ?_; rotate_left; show Act.put _ (some 116) _ = _; simp only [pS]; rfl
        refine one_ (i := 5) (N := some 117) #[tt, tt, tt, tt, tt, tt, ff] rfl rfl (by kernel_rfl) (by decide) (fun K hK => ?_)
        refine step_append_cells (w0 := w) (W := w5.drew) w.heap.size (by rfl) (.tmp 114) (.tmp 116) 140 142 _ 2 16 rfl Try.underlying140 info142' rfl (by decide) (by decide) (.slice B r.length cb) r.length (hrow r) [.int .i64 (0), .int .i64 2] rfl rfl rfl (one_hv (RT.cls ⟨z0, z1, z2, z3⟩)) (Fr.own_move HO6.out fun _ _ => rfl) (below_drew HB5.out) HB5.out.size (by have := HRL.out; omega) ?_
        intro v1 w6 ho1 hb1 hg1 hat1
        obtain ⟨A5, c5, rfl⟩ := own_slice ho1
        have hx1 := blk_grown (Q17 HX5.out) hg1 HNE.out
        have hS : w6.cell? ⟨wo.heap.size + 1, 0, none⟩ = some (.int .i64 (0)) ∧ w6.cell? ⟨wo.heap.size + 1, 1, none⟩ = some (.int .i64 2) := ⟨Q10 hx1 0, Q10 hx1 1⟩
        have HO7 := Lib.hid ho1; have HB7 := Lib.hid hb1
        clear ho1 hb1 hg1 hat1 hx1
        refine hK.out _ _ hS (fun hHeld => ?_)
        clear hK K
        refine norm_ (a' := ?_) ?_ ?_; rotate_left; show Act.put _ (some 117) _ = _; simp only [pS]; rfl
        refine Q26 (i := 6) (N := some 3) (v := ?_) (a' := ?_) #[tt, tt, tt, tt, tt, tt, tt] rfl rfl (by kernel_rfl) (fun _ _ _ h => h) (Or.inl ⟨by rfl, ?_⟩) ?_ ?_; rotate_left; intro w'; go_simp; with_reducible rfl; rotate_left; simp only [pS]; rfl
        refine done_ (by kernel_rfl) ?_
        go_wp2
        go_roundw
        case rel => exact ⟨k + 1, (RT.cls ⟨z0, z1, z2, z3⟩) :: r, A5, c5, by omega, by go_num, rfl, HRUN.out, by rw [hrow_cons]; exact HO7.out, HB7.out⟩
        case measure => simp [intOf]; omega
      · obtain ⟨o0, ⟨z0, z1, z2, z3⟩⟩ := nn
        dsimp only at hop n0 n1 n2 n3 n4
        subst hop
        subst hx
        subst hs
        have HA := Lib.hid (parts_f 0 5)
        have hln : ((a :: r).length : Int) - 1 = (r.length : Int) := by simp only [List.length_cons]; omega
        have hpos : r.length < (a :: r).length := by simp only [List.length_cons]; omega
        have hle : (r.length : Int) < ((a :: r).length : Int) := by omega
        obtain ⟨gB, hBe, hgl, c0, c1⟩ := cells_half HH.out.own hpos
        subst hBe
        have hrw : hrow (a :: r) = hrow r ++ (hv a ++ []) := by rw [hrow_cons, List.append_nil]
        rw [hrw, (hrow_at r a _).1] at c0
        rw [hrw, (hrow_at r a _).2] at c1
        have hcutt := cut_to (some ⟨gB, 0, none⟩) (a :: r).length cb r.length (by omega) hcb
        have hda := HH.out.dep hl (a := a) (by simp)
        have hLL : r.length + 1 ≤ (a :: r).length ∧ (a :: r).length ≤ r.length + 1 := by simp only [List.length_cons]; omega
        clear hrw hpos
        generalize (a :: r).length = L at hcutt hcb hst hln hle hLL ⊢
        go_wp2_with fail
        refine (pattern_parts.calls 1 5 1 _ HA.out).mono ?_
        rintro e w2 ⟨rfl, ⟨nd, rfl⟩⟩
        have hsz0 : ((wo.alloc (.cells #[.int .i64 5, .int .u64 z0, .int .u64 z1, .int .u64 z2, .int .u64 z3] 45)).drewN nd).heap.size = wo.heap.size + 1 := by simp
        go_upto_region 12 with (fail)
        have hB5 : Below w.heap.size w (((wo.alloc (.cells #[.int .i64 5, .int .u64 z0, .int .u64 z1, .int .u64 z2, .int .u64 z3] 45)).drewN nd).alloc (.cells #[.int .i64 0, .int .i64 5] 142)) := (Q7 (HH.out.bel.alloc HH.out.bel.size _) nd).alloc (by rw [hsz0]; have := HH.out.bel.size; omega) _
        have hX5 : (((wo.alloc (.cells #[.int .i64 5, .int .u64 z0, .int .u64 z1, .int .u64 z2, .int .u64 z3] 45)).drewN nd).alloc (.cells #[.int .i64 0, .int .i64 5] 142)).heap[wo.heap.size + 1]? = some (.cells #[.int .i64 0, .int .i64 5] 142 (0, 0)) := by rw [← hsz0]; exact heap_alloc_new _ _
        have hO5 : (((wo.alloc (.cells #[.int .i64 5, .int .u64 z0, .int .u64 z1, .int .u64 z2, .int .u64 z3] 45)).drewN nd).alloc (.cells #[.int .i64 0, .int .i64 5] 142)).ownsRow w.heap.size 142 2 (.slice (some ⟨gB, 0, none⟩) (a :: r).length cb) (a :: r).length (hrow (a :: r)) := (Fr.own_move (HH.out.own.alloc _) fun _ _ => rfl : ((wo.alloc (.cells #[.int .i64 5, .int .u64 z0, .int .u64 z1, .int .u64 z2, .int .u64 z3] 45)).drewN nd).ownsRow w.heap.size 142 2 (.slice (some ⟨gB, 0, none⟩) (a :: r).length cb) (a :: r).length (hrow (a :: r))).alloc _
        have hOK : ∀ j, (((wo.alloc (.cells #[.int .i64 5, .int .u64 z0, .int .u64 z1, .int .u64 z2, .int .u64 z3] 45)).drewN nd).alloc (.cells #[.int .i64 0, .int .i64 5] 142)).cell? ⟨gB, j, none⟩ = wo.cell? ⟨gB, j, none⟩ := fun j => by exact (((Below.refl wo.heap.size wo).alloc (Nat.le_refl _) _ |> fun h => Q7 h nd).alloc (by rw [hsz0]; omega) _).cell (p := ⟨gB, j, none⟩) hgl
        have c0x := (hOK _).trans c0
        have c1x := (hOK _).trans c1
        clear hsz0 hOK c0 c1
        generalize ((wo.alloc (.cells #[.int .i64 5, .int .u64 z0, .int .u64 z1, .int .u64 z2, .int .u64 z3] 45)).drewN nd).alloc (.cells #[.int .i64 0, .int .i64 5] 142) = V at hB5 hX5 hO5 c0x c1x ⊢
        have HB5 := Lib.hid hB5; have HX5 := Lib.hid hX5; have HO5 := Lib.hid hO5
        clear hB5 hX5 hO5
        have HGV := Lib.hid (own_lt HO5.out gB rfl)
        have HLT : Hid (∀ W : World, Below V.heap.size V W → gB < W.heap.size) := Lib.hid fun W h => Nat.lt_of_lt_of_le HGV.out h.size
        have HD0 := Lib.hid (show (0 : Int) ≤ (a.dep : Int) ∧ (a.dep : Int) ≤ 10000 by omega)
        cases h3 : (a.top == 3) with
        | true =>
          refine start_ (n := 22) (S := fun w' => w'.cell? ⟨gB, r.length * 2, none⟩ = some (.int .i64 (a.dep : Int)) ∧ w'.cell? ⟨gB, r.length * 2 + 1, none⟩ = some (.int .i64 a.top)) (ds := [21]) #[ff, ff, ff, ff, ff, ff, ff, ff, ff, ff, ff, ff, ff, ff, ff, ff, ff, ff, ff, ff, ff, ff] (by kernel_rfl) rfl rfl ⟨c0x, c1x⟩ (fun hHeld => ?_)
          have HX6 : Hid (V.drew.heap[wo.heap.size + 1]? = some (.cells #[.int .i64 0, .int .i64 5] 142 (0, 0))) := HX5
          have HB6 : Hid (Below V.heap.size V V.drew) := Lib.hid (Below.refl _ _).drew
          clear c0x c1x
          generalize V.drew = w6 at HX6 HB6 hHeld ⊢
          refine Q26 (i := 0) (N := some 31) (v := ?_) (a' := ?_) #[tt, ff, ff, ff, ff, ff, ff, ff, ff, ff, ff, ff, ff, ff, ff, ff, ff, ff, ff, ff, ff, ff] rfl rfl (by kernel_rfl) (fun _ _ _ h => h) (Or.inl ⟨by rfl, ?_⟩) ?_ ?_; rotate_left; intro w'; go_simp; with_reducible rfl; rotate_left; simp only [pS]; rfl
          refine Q26 (i := 1) (N := some 32) (v := ?_) (a' := ?_) #[tt, tt, ff, ff, ff, ff, ff, ff, ff, ff, ff, ff, ff, ff, ff, ff, ff, ff, ff, ff, ff, ff] rfl rfl (by kernel_rfl) (fun _ _ _ h => h) (Or.inl ⟨by rfl, ?_⟩) ?_ ?_; rotate_left; intro w'; go_simp; with_reducible rfl; rotate_left; simp only [pS]; rfl
          refine Q26 (i := 2) (N := some 33) (v := ?_) (a' := ?_) #[tt, tt, tt, ff, ff, ff, ff, ff, ff, ff, ff, ff, ff, ff, ff, ff, ff, ff, ff, ff, ff, ff] rfl rfl (by kernel_rfl) (fun _ _ _ h => h) (Or.inl ⟨by rfl, ?_⟩) ?_ ?_; rotate_left; intro w'; go_simp; with_reducible rfl; rotate_left; simp only [pS]; rfl
          refine Q26 (i := 3) (N := some 34) (v := ?_) (a' := ?_) #[tt, tt, tt, tt, ff, ff, ff, ff, ff, ff, ff, ff, ff, ff, ff, ff, ff, ff, ff, ff, ff, ff] rfl rfl (by kernel_rfl) (fun _ _ _ h => h) (Or.inl ⟨by rfl, ?_⟩) ?_ ?_; rotate_left; intro w'; go_simp; with_reducible rfl; rotate_left; simp only [pS]; rfl
          refine take_ (i := 4) (N := some 35) (v := ?_) (a' := ?_) #[tt, tt, tt, tt, tt, ff, ff, ff, ff, ff, ff, ff, ff, ff, ff, ff, ff, ff, ff, ff, ff, ff] rfl rfl (by kernel_rfl) (fun _ _ _ h => h) (Or.inl ⟨by rfl, ?_⟩) hHeld ?_ ?_; rotate_left; rintro w' ⟨s0, s1⟩; go_simp; with_reducible rfl; rotate_left; simp only [pS]; rfl
          refine Q26 (i := 5) (N := some 36) (v := ?_) (a' := ?_) #[tt, tt, tt, tt, tt, tt, ff, ff, ff, ff, ff, ff, ff, ff, ff, ff, ff, ff, ff, ff, ff, ff] rfl rfl (by kernel_rfl) (fun _ _ _ h => h) (Or.inl ⟨by rfl, ?_⟩) ?_ ?_; rotate_left; intro w'; go_simp; with_reducible rfl; rotate_left; simp only [pS]; rfl
          refine Q26 (i := 6) (N := some 37) (v := ?_) (a' := ?_) #[tt, tt, tt, tt, tt, tt, tt, ff, ff, ff, ff, ff, ff, ff, ff, ff, ff, ff, ff, ff, ff, ff] rfl rfl (by kernel_rfl) (fun _ _ _ h => h) (Or.inl ⟨by rfl, ?_⟩) ?_ ?_; rotate_left; intro w'; go_simp; with_reducible rfl; rotate_left; simp only [pS]; rfl
          refine Q26 (i := 7) (N := some 38) (v := ?_) (a' := ?_) #[tt, tt, tt, tt, tt, tt, tt, tt, ff, ff, ff, ff, ff, ff, ff, ff, ff, ff, ff, ff, ff, ff] rfl rfl (by kernel_rfl) (fun _ _ _ h => h) (Or.inl ⟨by rfl, ?_⟩) ?_ ?_; rotate_left; intro w'; go_simp; with_reducible rfl; rotate_left; simp only [pS]; rfl
          refine Q26 (i := 8) (N := some 39) (v := ?_) (a' := ?_) #[tt, tt, tt, tt, tt, tt, tt, tt, tt, ff, ff, ff, ff, ff, ff, ff, ff, ff, ff, ff, ff, ff] rfl rfl (by kernel_rfl) (fun _ _ _ h => h) (Or.inl ⟨by rfl, ?_⟩) ?_ ?_; rotate_left; intro w'; go_simp; with_reducible rfl; rotate_left; simp only [pS]; rfl
          refine take_ (i := 9) (N := some 40) (v := ?_) (a' := ?_) #[tt, tt, tt, tt, tt, tt, tt, tt, tt, tt, ff, ff, ff, ff, ff, ff, ff, ff, ff, ff, ff, ff] rfl rfl (by kernel_rfl) (fun _ _ _ h => h) (Or.inl ⟨by rfl, ?_⟩) hHeld ?_ ?_; rotate_left; rintro w' ⟨s0, s1⟩; go_simp; with_reducible rfl; rotate_left; simp only [pS]; rfl
          refine Q26 (i := 10) (N := some 41) (v := ?_) (a' := ?_) #[tt, tt, tt, tt, tt, tt, tt, tt, tt, tt, tt, ff, ff, ff, ff, ff, ff, ff, ff, ff, ff, ff] rfl rfl (by kernel_rfl) (fun _ _ _ h => h) (Or.inl ⟨by rfl, ?_⟩) ?_ ?_; rotate_left; intro w'; go_simp; with_reducible rfl; rotate_left; simp only [pS]; rfl
          refine Q26 (i := 11) (N := some 42) (v := ?_) (a' := ?_) #[tt, tt, tt, tt, tt, tt, tt, tt, tt, tt, tt, tt, ff, ff, ff, ff, ff, ff, ff, ff, ff, ff] rfl rfl (by kernel_rfl) (fun _ _ _ h => h) (Or.inl ⟨by rfl, ?_⟩) ?_ ?_; rotate_left; intro w'; go_simp; with_reducible rfl; rotate_left; simp only [pS]; rfl
          refine Q26 (i := 12) (N := some 43) (v := undef) (a' := ?_) #[tt, tt, tt, tt, tt, tt, tt, tt, tt, tt, tt, tt, tt, ff, ff, ff, ff, ff, ff, ff, ff, ff] rfl rfl (by kernel_rfl) (fun _ _ _ h => h) (Or.inr ⟨by rfl, rfl⟩) ?_ ?_; rotate_left; simp only [pS]; rfl
          refine Q26 (i := 13) (N := some 44) (v := undef) (a' := ?_) #[tt, tt, tt, tt, tt, tt, tt, tt, tt, tt, tt, tt, tt, tt, ff, ff, ff, ff, ff, ff, ff, ff] rfl rfl (by kernel_rfl) (fun _ _ _ h => h) (Or.inr ⟨by rfl, rfl⟩) ?_ ?_; rotate_left; simp only [pS]; rfl
          refine Q26 (i := 14) (N := some 45) (v := undef) (a' := ?_) #[tt, tt, tt, tt, tt, tt, tt, tt, tt, tt, tt, tt, tt, tt, tt, ff, ff, ff, ff, ff, ff, ff] rfl rfl (by kernel_rfl) (fun _ _ _ h => h) (Or.inr ⟨by rfl, rfl⟩) ?_ ?_; rotate_left; simp only [pS]; rfl
          refine Q26 (i := 15) (N := some 46) (v := undef) (a' := ?_) #[tt, tt, tt, tt, tt, tt, tt, tt, tt, tt, tt, tt, tt, tt, tt, tt, ff, ff, ff, ff, ff, ff] rfl rfl (by kernel_rfl) (fun _ _ _ h => h) (Or.inr ⟨by rfl, rfl⟩) ?_ ?_; rotate_left; simp only [pS]; rfl
          refine Q26 (i := 16) (N := some 47) (v := undef) (a' := ?_) #[tt, tt, tt, tt, tt, tt, tt, tt, tt, tt, tt, tt, tt, tt, tt, tt, tt, ff, ff, ff, ff, ff] rfl rfl (by kernel_rfl) (fun _ _ _ h => h) (Or.inr ⟨by rfl, rfl⟩) ?_ ?_; rotate_left; simp only [pS]; rfl
          refine Q26 (i := 17) (N := some 48) (v := undef) (a' := ?_) #[tt, tt, tt, tt, tt, tt, tt, tt, tt, tt, tt, tt, tt, tt, tt, tt, tt, tt, ff, ff, ff, ff] rfl rfl (by kernel_rfl) (fun _ _ _ h => h) (Or.inr ⟨by rfl, rfl⟩) ?_ ?_; rotate_left; simp only [pS]; rfl
          refine Q26 (i := 18) (N := some 49) (v := ?_) (a' := ?_) #[tt, tt, tt, tt, tt, tt, tt, tt, tt, tt, tt, tt, tt, tt, tt, tt, tt, tt, tt, ff, ff, ff] rfl rfl (by kernel_rfl) (fun _ _ _ h => h) (Or.inl ⟨by rfl, ?_⟩) ?_ ?_; rotate_left; intro w'; go_simp; with_reducible rfl; rotate_left; simp only [pS]; rfl
          refine one_ (i := 19) (N := some 50) #[tt, tt, tt, tt, tt, tt, tt, tt, tt, tt, tt, tt, tt, tt, tt, tt, tt, tt, tt, tt, ff, ff] rfl rfl (by kernel_rfl) (by decide) (fun K hK => ?_)
          refine goesV_ Try.func71 (by kernel_rfl) rfl #[.agg #[.int .i64 (a.dep : Int), .int .i64 a.top], .bool true] (by rfl) rfl rfl rfl (by (try simp only [List.map_toArray, List.map_cons, List.map_nil]); first | done | rfl) ?_
          refine (in_d (a.dep : Int) a.top true _ HD0.out.1 HD0.out.2).mono ?_
          rintro e w7 ⟨rfl, hb⟩
          have hS := (show (fun w' => w'.cell? ⟨gB, r.length * 2, none⟩ = some (.int .i64 (a.dep : Int)) ∧ w'.cell? ⟨gB, r.length * 2 + 1, none⟩ = some (.int .i64 a.top)) w7 from ⟨(hb.cell (p := ⟨gB, _, none⟩) (HLT.out _ HB6.out)).trans hHeld.1, (hb.cell (p := ⟨gB, _, none⟩) (HLT.out _ HB6.out)).trans hHeld.2⟩)
          have hx := hb.block _ (Fr.heap_lt' HX6.out) |>.trans HX6.out
          have HX6' := Lib.hid hx
          have HB6' := Lib.hid (HB6.out.trans (hb.mono HB6.out.size))
          clear hb hx HX6 HB6 hHeld
          rename Hid (w7.heap[wo.heap.size + 1]? = _) => HX6
          rename Hid (Below V.heap.size V w7) => HB6
          refine ⟨_, rfl, ?_⟩
          refine hK.out _ _ hS (fun hHeld => ?_)
          clear hK K
          refine norm_ (a' := ?_) ?_ ?_; rotate_left; show Act.put _ (some 50) _ = _; simp only [pS]; rfl
          refine Q26 (i := 20) (N := some 51) (v := ?_) (a' := ?_) #[tt, tt, tt, tt, tt, tt, tt, tt, tt, tt, tt, tt, tt, tt, tt, tt, tt, tt, tt, tt, tt, ff] rfl rfl (by kernel_rfl) (fun _ _ _ h => h) (Or.inl ⟨by rfl, ?_⟩) ?_ ?_; rotate_left; intro w'; go_simp; with_reducible rfl; rotate_left; simp only [pS]; rfl
          obtain ⟨px, fx⟩ : w7.cell? ⟨wo.heap.size + 1, 0, none⟩ = some (.int .i64 0) ∧ w7.frozen? ⟨wo.heap.size + 1, 0, none⟩ = false := ⟨Q10 HX6.out 0, Q11 HX6.out 0⟩
          refine last_ (i := 21) (N := none) #[tt, tt, tt, tt, tt, tt, tt, tt, tt, tt, tt, tt, tt, tt, tt, tt, tt, tt, tt, tt, tt, tt] rfl rfl (by kernel_rfl) (by decide) (fun K hK => ?_)
          (with_reducible refine skip_ (w1 := ?_) ?hw_ ?hN_ ?_ ?_); (case hw_ => rfl); (case hN_ => rfl)
          rotate_left
          · go_simp
            rfl
          refine hK.out _ _ ?_
          clear hK K
          refine done_ (by kernel_rfl) ?_
          have hdv : (inD true (a.dep : Int)) = (((RT.star a).dep : Nat) : Int) := in_row a true (by rw [h3]; rfl)
          rw [hdv]
          have HDV := Lib.hid hdv
          clear hdv h3
          go_upto_region 17 with (fail)
          have hB5 : Below w.heap.size w (w7.setCell ⟨wo.heap.size + 1, 0, none⟩ (.int .i64 ((RT.star a).dep : Int))) := (HB5.out.trans (HB6.out.mono HB5.out.size)).setCell (by have := HH.out.bel.size; dsimp only; omega) _
          have hX5 : (w7.setCell ⟨wo.heap.size + 1, 0, none⟩ (.int .i64 ((RT.star a).dep : Int))).heap[wo.heap.size + 1]? = some (.cells #[.int .i64 ((RT.star a).dep : Int), .int .i64 5] 142 (0, 0)) := blk_set HX6.out 0 _
          have hO5 : (w7.setCell ⟨wo.heap.size + 1, 0, none⟩ (.int .i64 ((RT.star a).dep : Int))).ownsRow w.heap.size 142 2 (.slice (some ⟨gB, 0, none⟩) (a :: r).length cb) (a :: r).length (hrow (a :: r)) := own_setCell (pw_own_below HO5.out HB6.out) (fun e => by have := own_lt HH.out.own _ e.symm; dsimp only at this; omega) _
          clear px fx hHeld
          generalize w7.setCell ⟨wo.heap.size + 1, 0, none⟩ (.int .i64 ((RT.star a).dep : Int)) = w5 at hB5 hX5 hO5 ⊢
          have hO6 := own_take hO5 (m := r.length) (by simp only [List.length_cons]; omega)
          rw [hrow_cons, List.take_append_of_le_length (by rw [hrow_len]; omega), List.take_of_length_le (by rw [hrow_len]; omega)] at hO6
          have p0 : w5.cell? ⟨wo.heap.size + 1, 0, none⟩ = some (.int .i64 ((RT.star a).dep : Int)) := Q10 hX5 0
          have p1 : w5.cell? ⟨wo.heap.size + 1, 1, none⟩ = some (.int .i64 5) := Q10 hX5 1
          have HX5 := Lib.hid hX5; have HO6 := Lib.hid hO6; have HB5 := Lib.hid hB5
          have HRL := Lib.hid (show r.length ≤ 4096 by omega)
          have HNE := Lib.hid (show some (wo.heap.size + 1) ≠ (Value.slice (some ⟨gB, 0, none⟩) r.length cb).ownBlock from fun e => by have := own_lt (own_take HH.out.own (m := r.length) (by simp only [List.length_cons]; omega)) _ e.symm; omega)
          clear hX5 hO5 hO6 hB5
          go_wp2_with fail
          refine start_ (n := 7) (S := fun w' => w'.cell? ⟨wo.heap.size + 1, 0, none⟩ = some (.int .i64 ((RT.star a).dep : Int)) ∧ w'.cell? ⟨wo.heap.size + 1, 1, none⟩ = some (.int .i64 5)) (ds := []) #[ff, ff, ff, ff, ff, ff, ff] (by kernel_rfl) rfl rfl ⟨p0, p1⟩ (fun hHeld => ?_)
          clear p0 p1
          refine Q26 (i := 0) (N := some 112) (v := ?_) (a' := ?_) #[tt, ff, ff, ff, ff, ff, ff] rfl rfl (by kernel_rfl) (fun _ _ _ h => h) (Or.inl ⟨by rfl, ?_⟩) ?_ ?_; rotate_left; intro w'; go_simp; with_reducible rfl; rotate_left; simp only [pS]; rfl
          refine Q26 (i := 1) (N := some 113) (v := ?_) (a' := ?_) #[tt, tt, ff, ff, ff, ff, ff] rfl rfl (by kernel_rfl) (fun _ _ _ h => h) (Or.inl ⟨by rfl, ?_⟩) ?_ ?_; rotate_left; intro w'; go_simp; with_reducible rfl; rotate_left; simp only [pS]; rfl
          refine Q26 (i := 2) (N := some 114) (v := ?_) (a' := ?_) #[tt, tt, tt, ff, ff, ff, ff] rfl rfl (by kernel_rfl) (fun _ _ _ h => h) (Or.inl ⟨by rfl, ?_⟩) ?_ ?_; rotate_left; intro w'; go_simp; with_reducible rfl; rotate_left; simp only [pS]; rfl
          refine take_ (i := 3) (N := some 115) (v := ?_) (a' := ?_) #[tt, tt, tt, tt, ff, ff, ff] rfl rfl (by kernel_rfl) (fun _ _ _ h => h) (Or.inl ⟨by rfl, ?_⟩) hHeld ?_ ?_; rotate_left; rintro w' ⟨s0, s1⟩; go_simp; with_reducible rfl; rotate_left; simp only [pS]; rfl
          refine one_ (i := 4) (N := some 116) #[tt, tt, tt, tt, tt, ff, ff] rfl rfl (by kernel_rfl) (by decide) (fun K hK => ?_)
          refine value_ (w1 := ?_) (v := ?_) (by rfl) rfl ?_ ?_
          rotate_left 2
          · go_simp
            constructor
            · rfl
            · rfl
          refine hK.out _ _ ⟨(Q10 (Q15 (Q17 HX5.out) _) 0).trans rfl, (Q10 (Q15 (Q17 HX5.out) _) 1).trans rfl⟩ (fun hHeld => ?_)
          clear hK K
          refine norm_ (a' := ?_) ?_ ?_; rotate_left; show Act.put _ (some 116) _ = _; simp only [pS]; rfl
          refine one_ (i := 5) (N := some 117) #[tt, tt, tt, tt, tt, tt, ff] rfl rfl (by kernel_rfl) (by decide) (fun K hK => ?_)
          refine step_append_cells (w0 := w) (W := w5.drew) w.heap.size (by rfl) (.tmp 114) (.tmp 116) 140 142 _ 2 16 rfl Try.underlying140 info142' rfl (by decide) (by decide) (.slice (some ⟨gB, 0, none⟩) r.length cb) r.length (hrow r) [.int .i64 ((RT.star a).dep : Int), .int .i64 5] rfl rfl rfl (one_hv (RT.star a)) (Fr.own_move HO6.out fun _ _ => rfl) (below_drew HB5.out) HB5.out.size (by have := HRL.out; omega) ?_
          intro v1 w6 ho1 hb1 hg1 hat1
          obtain ⟨A5, c5, rfl⟩ := own_slice ho1
          have hx1 := blk_grown (Q17 HX5.out) hg1 HNE.out
          have hS : w6.cell? ⟨wo.heap.size + 1, 0, none⟩ = some (.int .i64 ((RT.star a).dep : Int)) ∧ w6.cell? ⟨wo.heap.size + 1, 1, none⟩ = some (.int .i64 5) := ⟨Q10 hx1 0, Q10 hx1 1⟩
          have HO7 := Lib.hid ho1; have HB7 := Lib.hid hb1
          clear ho1 hb1 hg1 hat1 hx1
          refine hK.out _ _ hS (fun hHeld => ?_)
          clear hK K
          refine norm_ (a' := ?_) ?_ ?_; rotate_left; show Act.put _ (some 117) _ = _; simp only [pS]; rfl
          refine Q26 (i := 6) (N := some 3) (v := ?_) (a' := ?_) #[tt, tt, tt, tt, tt, tt, tt] rfl rfl (by kernel_rfl) (fun _ _ _ h => h) (Or.inl ⟨by rfl, ?_⟩) ?_ ?_; rotate_left; intro w'; go_simp; with_reducible rfl; rotate_left; simp only [pS]; rfl
          refine done_ (by kernel_rfl) ?_
          go_wp2
          go_roundw
          case rel => exact ⟨k + 1, (RT.star a) :: r, A5, c5, by omega, by go_num, rfl, HRUN.out, by rw [hrow_cons]; exact HO7.out, HB7.out⟩
          case measure => simp [intOf]; omega
        | false =>
          refine start_ (n := 22) (S := fun w' => w'.cell? ⟨gB, r.length * 2, none⟩ = some (.int .i64 (a.dep : Int)) ∧ w'.cell? ⟨gB, r.length * 2 + 1, none⟩ = some (.int .i64 a.top)) (ds := [21]) #[ff, ff, ff, ff, ff, ff, ff, ff, ff, ff, ff, ff, ff, ff, ff, ff, ff, ff, ff, ff, ff, ff] (by kernel_rfl) rfl rfl ⟨c0x, c1x⟩ (fun hHeld => ?_)
          have HX6 : Hid (V.drew.heap[wo.heap.size + 1]? = some (.cells #[.int .i64 0, .int .i64 5] 142 (0, 0))) := HX5
          have HB6 : Hid (Below V.heap.size V V.drew) := Lib.hid (Below.refl _ _).drew
          clear c0x c1x
          generalize V.drew = w6 at HX6 HB6 hHeld ⊢
          refine Q26 (i := 0) (N := some 31) (v := ?_) (a' := ?_) #[tt, ff, ff, ff, ff, ff, ff, ff, ff, ff, ff, ff, ff, ff, ff, ff, ff, ff, ff, ff, ff, ff] rfl rfl (by kernel_rfl) (fun _ _ _ h => h) (Or.inl ⟨by rfl, ?_⟩) ?_ ?_; rotate_left; intro w'; go_simp; with_reducible rfl; rotate_left; simp only [pS]; rfl
          refine Q26 (i := 1) (N := some 32) (v := ?_) (a' := ?_) #[tt, tt, ff, ff, ff, ff, ff, ff, ff, ff, ff, ff, ff, ff, ff, ff, ff, ff, ff, ff, ff, ff] rfl rfl (by kernel_rfl) (fun _ _ _ h => h) (Or.inl ⟨by rfl, ?_⟩) ?_ ?_; rotate_left; intro w'; go_simp; with_reducible rfl; rotate_left; simp only [pS]; rfl
          refine Q26 (i := 2) (N := some 33) (v := ?_) (a' := ?_) #[tt, tt, tt, ff, ff, ff, ff, ff, ff, ff, ff, ff, ff, ff, ff, ff, ff, ff, ff, ff, ff, ff] rfl rfl (by kernel_rfl) (fun _ _ _ h => h) (Or.inl ⟨by rfl, ?_⟩) ?_ ?_; rotate_left; intro w'; go_simp; with_reducible rfl; rotate_left; simp only [pS]; rfl
          refine Q26 (i := 3) (N := some 34) (v := ?_) (a' := ?_) #[tt, tt, tt, tt, ff, ff, ff, ff, ff, ff, ff, ff, ff, ff, ff, ff, ff, ff, ff, ff, ff, ff] rfl rfl (by kernel_rfl) (fun _ _ _ h => h) (Or.inl ⟨by rfl, ?_⟩) ?_ ?_; rotate_left; intro w'; go_simp; with_reducible rfl; rotate_left; simp only [pS]; rfl
          refine take_ (i := 4) (N := some 35) (v := ?_) (a' := ?_) #[tt, tt, tt, tt, tt, ff, ff, ff, ff, ff, ff, ff, ff, ff, ff, ff, ff, ff, ff, ff, ff, ff] rfl rfl (by kernel_rfl) (fun _ _ _ h => h) (Or.inl ⟨by rfl, ?_⟩) hHeld ?_ ?_; rotate_left; rintro w' ⟨s0, s1⟩; go_simp; with_reducible rfl; rotate_left; simp only [pS]; rfl
          refine Q26 (i := 5) (N := some 36) (v := ?_) (a' := ?_) #[tt, tt, tt, tt, tt, tt, ff, ff, ff, ff, ff, ff, ff, ff, ff, ff, ff, ff, ff, ff, ff, ff] rfl rfl (by kernel_rfl) (fun _ _ _ h => h) (Or.inl ⟨by rfl, ?_⟩) ?_ ?_; rotate_left; intro w'; go_simp; with_reducible rfl; rotate_left; simp only [pS]; rfl
          refine Q26 (i := 6) (N := some 37) (v := ?_) (a' := ?_) #[tt, tt, tt, tt, tt, tt, tt, ff, ff, ff, ff, ff, ff, ff, ff, ff, ff, ff, ff, ff, ff, ff] rfl rfl (by kernel_rfl) (fun _ _ _ h => h) (Or.inl ⟨by rfl, ?_⟩) ?_ ?_; rotate_left; intro w'; go_simp; with_reducible rfl; rotate_left; simp only [pS]; rfl
          refine Q26 (i := 7) (N := some 38) (v := ?_) (a' := ?_) #[tt, tt, tt, tt, tt, tt, tt, tt, ff, ff, ff, ff, ff, ff, ff, ff, ff, ff, ff, ff, ff, ff] rfl rfl (by kernel_rfl) (fun _ _ _ h => h) (Or.inl ⟨by rfl, ?_⟩) ?_ ?_; rotate_left; intro w'; go_simp; with_reducible rfl; rotate_left; simp only [pS]; rfl
          refine Q26 (i := 8) (N := some 39) (v := ?_) (a' := ?_) #[tt, tt, tt, tt, tt, tt, tt, tt, tt, ff, ff, ff, ff, ff, ff, ff, ff, ff, ff, ff, ff, ff] rfl rfl (by kernel_rfl) (fun _ _ _ h => h) (Or.inl ⟨by rfl, ?_⟩) ?_ ?_; rotate_left; intro w'; go_simp; with_reducible rfl; rotate_left; simp only [pS]; rfl
          refine take_ (i := 9) (N := some 40) (v := ?_) (a' := ?_) #[tt, tt, tt, tt, tt, tt, tt, tt, tt, tt, ff, ff, ff, ff, ff, ff, ff, ff, ff, ff, ff, ff] rfl rfl (by kernel_rfl) (fun _ _ _ h => h) (Or.inl ⟨by rfl, ?_⟩) hHeld ?_ ?_; rotate_left; rintro w' ⟨s0, s1⟩; go_simp; with_reducible rfl; rotate_left; simp only [pS]; rfl
          refine Q26 (i := 10) (N := some 41) (v := ?_) (a' := ?_) #[tt, tt, tt, tt, tt, tt, tt, tt, tt, tt, tt, ff, ff, ff, ff, ff, ff, ff, ff, ff, ff, ff] rfl rfl (by kernel_rfl) (fun _ _ _ h => h) (Or.inl ⟨by rfl, ?_⟩) ?_ ?_; rotate_left; intro w'; go_simp; with_reducible rfl; rotate_left; simp only [pS]; rfl
          refine Q26 (i := 11) (N := some 42) (v := ?_) (a' := ?_) #[tt, tt, tt, tt, tt, tt, tt, tt, tt, tt, tt, tt, ff, ff, ff, ff, ff, ff, ff, ff, ff, ff] rfl rfl (by kernel_rfl) (fun _ _ _ h => h) (Or.inl ⟨by rfl, ?_⟩) ?_ ?_; rotate_left; intro w'; go_simp; with_reducible rfl; rotate_left; simp only [pS]; rfl
          refine Q26 (i := 12) (N := some 43) (v := ?_) (a' := ?_) #[tt, tt, tt, tt, tt, tt, tt, tt, tt, tt, tt, tt, tt, ff, ff, ff, ff, ff, ff, ff, ff, ff] rfl rfl (by kernel_rfl) (fun _ _ _ h => h) (Or.inl ⟨by rfl, ?_⟩) ?_ ?_; rotate_left; intro w'; go_simp; with_reducible rfl; rotate_left; simp only [pS]; rfl
          refine Q26 (i := 13) (N := some 44) (v := ?_) (a' := ?_) #[tt, tt, tt, tt, tt, tt, tt, tt, tt, tt, tt, tt, tt, tt, ff, ff, ff, ff, ff, ff, ff, ff] rfl rfl (by kernel_rfl) (fun _ _ _ h => h) (Or.inl ⟨by rfl, ?_⟩) ?_ ?_; rotate_left; intro w'; go_simp; with_reducible rfl; rotate_left; simp only [pS]; rfl
          refine Q26 (i := 14) (N := some 45) (v := ?_) (a' := ?_) #[tt, tt, tt, tt, tt, tt, tt, tt, tt, tt, tt, tt, tt, tt, tt, ff, ff, ff, ff, ff, ff, ff] rfl rfl (by kernel_rfl) (fun _ _ _ h => h) (Or.inl ⟨by rfl, ?_⟩) ?_ ?_; rotate_left; intro w'; go_simp; with_reducible rfl; rotate_left; simp only [pS]; rfl
          refine Q26 (i := 15) (N := some 46) (v := ?_) (a' := ?_) #[tt, tt, tt, tt, tt, tt, tt, tt, tt, tt, tt, tt, tt, tt, tt, tt, ff, ff, ff, ff, ff, ff] rfl rfl (by kernel_rfl) (fun _ _ _ h => h) (Or.inl ⟨by rfl, ?_⟩) ?_ ?_; rotate_left; intro w'; go_simp; with_reducible rfl; rotate_left; simp only [pS]; rfl
          refine take_ (i := 16) (N := some 47) (v := ?_) (a' := ?_) #[tt, tt, tt, tt, tt, tt, tt, tt, tt, tt, tt, tt, tt, tt, tt, tt, tt, ff, ff, ff, ff, ff] rfl rfl (by kernel_rfl) (fun _ _ _ h => h) (Or.inl ⟨by rfl, ?_⟩) hHeld ?_ ?_; rotate_left; rintro w' ⟨s0, s1⟩; go_simp; with_reducible rfl; rotate_left; simp only [pS]; rfl
          refine Q26 (i := 17) (N := some 48) (v := ?_) (a' := ?_) #[tt, tt, tt, tt, tt, tt, tt, tt, tt, tt, tt, tt, tt, tt, tt, tt, tt, tt, ff, ff, ff, ff] rfl rfl (by kernel_rfl) (fun _ _ _ h => h) (Or.inl ⟨by rfl, ?_⟩) ?_ ?_; rotate_left; intro w'; go_simp; with_reducible rfl; rotate_left; simp only [pS]; rfl
          refine Q26 (i := 18) (N := some 49) (v := ?_) (a' := ?_) #[tt, tt, tt, tt, tt, tt, tt, tt, tt, tt, tt, tt, tt, tt, tt, tt, tt, tt, tt, ff, ff, ff] rfl rfl (by kernel_rfl) (fun _ _ _ h => h) (Or.inl ⟨by rfl, ?_⟩) ?_ ?_; rotate_left; intro w'; go_simp; with_reducible rfl; rotate_left; simp only [pS]; rfl
          refine one_ (i := 19) (N := some 50) #[tt, tt, tt, tt, tt, tt, tt, tt, tt, tt, tt, tt, tt, tt, tt, tt, tt, tt, tt, tt, ff, ff] rfl rfl (by kernel_rfl) (by decide) (fun K hK => ?_)
          refine goesV_ Try.func71 (by kernel_rfl) rfl #[.agg #[.int .i64 (a.dep : Int), .int .i64 a.top], .bool (a.top == 4)] (by rfl) rfl rfl rfl (by (try simp only [List.map_toArray, List.map_cons, List.map_nil]); first | done | rfl) ?_
          refine (in_d (a.dep : Int) a.top (a.top == 4) _ HD0.out.1 HD0.out.2).mono ?_
          rintro e w7 ⟨rfl, hb⟩
          have hS := (show (fun w' => w'.cell? ⟨gB, r.length * 2, none⟩ = some (.int .i64 (a.dep : Int)) ∧ w'.cell? ⟨gB, r.length * 2 + 1, none⟩ = some (.int .i64 a.top)) w7 from ⟨(hb.cell (p := ⟨gB, _, none⟩) (HLT.out _ HB6.out)).trans hHeld.1, (hb.cell (p := ⟨gB, _, none⟩) (HLT.out _ HB6.out)).trans hHeld.2⟩)
          have hx := hb.block _ (Fr.heap_lt' HX6.out) |>.trans HX6.out
          have HX6' := Lib.hid hx
          have HB6' := Lib.hid (HB6.out.trans (hb.mono HB6.out.size))
          clear hb hx HX6 HB6 hHeld
          rename Hid (w7.heap[wo.heap.size + 1]? = _) => HX6
          rename Hid (Below V.heap.size V w7) => HB6
          refine ⟨_, rfl, ?_⟩
          refine hK.out _ _ hS (fun hHeld => ?_)
          clear hK K
          refine norm_ (a' := ?_) ?_ ?_; rotate_left; show Act.put _ (some 50) _ = _; simp only [pS]; rfl
          refine Q26 (i := 20) (N := some 51) (v := ?_) (a' := ?_) #[tt, tt, tt, tt, tt, tt, tt, tt, tt, tt, tt, tt, tt, tt, tt, tt, tt, tt, tt, tt, tt, ff] rfl rfl (by kernel_rfl) (fun _ _ _ h => h) (Or.inl ⟨by rfl, ?_⟩) ?_ ?_; rotate_left; intro w'; go_simp; with_reducible rfl; rotate_left; simp only [pS]; rfl
          obtain ⟨px, fx⟩ : w7.cell? ⟨wo.heap.size + 1, 0, none⟩ = some (.int .i64 0) ∧ w7.frozen? ⟨wo.heap.size + 1, 0, none⟩ = false := ⟨Q10 HX6.out 0, Q11 HX6.out 0⟩
          refine last_ (i := 21) (N := none) #[tt, tt, tt, tt, tt, tt, tt, tt, tt, tt, tt, tt, tt, tt, tt, tt, tt, tt, tt, tt, tt, tt] rfl rfl (by kernel_rfl) (by decide) (fun K hK => ?_)
          (with_reducible refine skip_ (w1 := ?_) ?hw_ ?hN_ ?_ ?_); (case hw_ => rfl); (case hN_ => rfl)
          rotate_left
          · go_simp
            rfl
          refine hK.out _ _ ?_
          clear hK K
          refine done_ (by kernel_rfl) ?_
          have hdv : (inD (a.top == 4) (a.dep : Int)) = (((RT.star a).dep : Nat) : Int) := in_row a (a.top == 4) (by rw [h3]; rfl)
          rw [hdv]
          have HDV := Lib.hid hdv
          clear hdv h3
          go_upto_region 17 with (fail)
          have hB5 : Below w.heap.size w (w7.setCell ⟨wo.heap.size + 1, 0, none⟩ (.int .i64 ((RT.star a).dep : Int))) := (HB5.out.trans (HB6.out.mono HB5.out.size)).setCell (by have := HH.out.bel.size; dsimp only; omega) _
          have hX5 : (w7.setCell ⟨wo.heap.size + 1, 0, none⟩ (.int .i64 ((RT.star a).dep : Int))).heap[wo.heap.size + 1]? = some (.cells #[.int .i64 ((RT.star a).dep : Int), .int .i64 5] 142 (0, 0)) := blk_set HX6.out 0 _
          have hO5 : (w7.setCell ⟨wo.heap.size + 1, 0, none⟩ (.int .i64 ((RT.star a).dep : Int))).ownsRow w.heap.size 142 2 (.slice (some ⟨gB, 0, none⟩) (a :: r).length cb) (a :: r).length (hrow (a :: r)) := own_setCell (pw_own_below HO5.out HB6.out) (fun e => by have := own_lt HH.out.own _ e.symm; dsimp only at this; omega) _
          clear px fx hHeld
          generalize w7.setCell ⟨wo.heap.size + 1, 0, none⟩ (.int .i64 ((RT.star a).dep : Int)) = w5 at hB5 hX5 hO5 ⊢
          have hO6 := own_take hO5 (m := r.length) (by simp only [List.length_cons]; omega)
          rw [hrow_cons, List.take_append_of_le_length (by rw [hrow_len]; omega), List.take_of_length_le (by rw [hrow_len]; omega)] at hO6
          have p0 : w5.cell? ⟨wo.heap.size + 1, 0, none⟩ = some (.int .i64 ((RT.star a).dep : Int)) := Q10 hX5 0
          have p1 : w5.cell? ⟨wo.heap.size + 1, 1, none⟩ = some (.int .i64 5) := Q10 hX5 1
          have HX5 := Lib.hid hX5; have HO6 := Lib.hid hO6; have HB5 := Lib.hid hB5
          have HRL := Lib.hid (show r.length ≤ 4096 by omega)
          have HNE := Lib.hid (show some (wo.heap.size + 1) ≠ (Value.slice (some ⟨gB, 0, none⟩) r.length cb).ownBlock from fun e => by have := own_lt (own_take HH.out.own (m := r.length) (by simp only [List.length_cons]; omega)) _ e.symm; omega)
          clear hX5 hO5 hO6 hB5
          go_wp2_with fail
          refine start_ (n := 7) (S := fun w' => w'.cell? ⟨wo.heap.size + 1, 0, none⟩ = some (.int .i64 ((RT.star a).dep : Int)) ∧ w'.cell? ⟨wo.heap.size + 1, 1, none⟩ = some (.int .i64 5)) (ds := []) #[ff, ff, ff, ff, ff, ff, ff] (by kernel_rfl) rfl rfl ⟨p0, p1⟩ (fun hHeld => ?_)
          clear p0 p1
          refine Q26 (i := 0) (N := some 112) (v := ?_) (a' := ?_) #[tt, ff, ff, ff, ff, ff, ff] rfl rfl (by kernel_rfl) (fun _ _ _ h => h) (Or.inl ⟨by rfl, ?_⟩) ?_ ?_; rotate_left; intro w'; go_simp; with_reducible rfl; rotate_left; simp only [pS]; rfl
          refine Q26 (i := 1) (N := some 113) (v := ?_) (a' := ?_) #[tt, tt, ff, ff, ff, ff, ff] rfl rfl (by kernel_rfl) (fun _ _ _ h => h) (Or.inl ⟨by rfl, ?_⟩) ?_ ?_; rotate_left; intro w'; go_simp; with_reducible rfl; rotate_left; simp only [pS]; rfl
          refine Q26 (i := 2) (N := some 114) (v := ?_) (a' := ?_) #[tt, tt, tt, ff, ff, ff, ff] rfl rfl (by kernel_rfl) (fun _ _ _ h => h) (Or.inl ⟨by rfl, ?_⟩) ?_ ?_; rotate_left; intro w'; go_simp; with_reducible rfl; rotate_left; simp only [pS]; rfl
          refine take_ (i := 3) (N := some 115) (v := ?_) (a' := ?_) #[tt, tt, tt, tt, ff, ff, ff] rfl rfl (by kernel_rfl) (fun _ _ _ h => h) (Or.inl ⟨by rfl, ?_⟩) hHeld ?_ ?_; rotate_left; rintro w' ⟨s0, s1⟩; go_simp; with_reducible rfl; rotate_left; simp only [pS]; rfl
          refine one_ (i := 4) (N := some 116) #[tt, tt, tt, tt, tt, ff, ff] rfl rfl (by kernel_rfl) (by decide) (fun K hK => ?_)
          refine value_ (w1 := ?_) (v := ?_) (by rfl) rfl ?_ ?_
          rotate_left 2
          · go_simp
            constructor
            · rfl
            · rfl
          refine hK.out _ _ ⟨(Q10 (Q15 (Q17 HX5.out) _) 0).trans rfl, (Q10 (Q15 (Q17 HX5.out) _) 1).trans rfl⟩ (fun hHeld => ?_)
          clear hK K
          refine norm_ (a' := ?_) ?_ ?_; rotate_left; show Act.put _ (some 116) _ = _; simp only [pS]; rfl
          refine one_ (i := 5) (N := some 117) #[tt, tt, tt, tt, tt, tt, ff] rfl rfl (by kernel_rfl) (by decide) (fun K hK => ?_)
          refine step_append_cells (w0 := w) (W := w5.drew) w.heap.size (by rfl) (.tmp 114) (.tmp 116) 140 142 _ 2 16 rfl Try.underlying140 info142' rfl (by decide) (by decide) (.slice (some ⟨gB, 0, none⟩) r.length cb) r.length (hrow r) [.int .i64 ((RT.star a).dep : Int), .int .i64 5] rfl rfl rfl (one_hv (RT.star a)) (Fr.own_move HO6.out fun _ _ => rfl) (below_drew HB5.out) HB5.out.size (by have := HRL.out; omega) ?_
          intro v1 w6 ho1 hb1 hg1 hat1
          obtain ⟨A5, c5, rfl⟩ := own_slice ho1
          have hx1 := blk_grown (Q17 HX5.out) hg1 HNE.out
          have hS : w6.cell? ⟨wo.heap.size + 1, 0, none⟩ = some (.int .i64 ((RT.star a).dep : Int)) ∧ w6.cell? ⟨wo.heap.size + 1, 1, none⟩ = some (.int .i64 5) := ⟨Q10 hx1 0, Q10 hx1 1⟩
          have HO7 := Lib.hid ho1; have HB7 := Lib.hid hb1
          clear ho1 hb1 hg1 hat1 hx1
          refine hK.out _ _ hS (fun hHeld => ?_)
          clear hK K
          refine norm_ (a' := ?_) ?_ ?_; rotate_left; show Act.put _ (some 117) _ = _; simp only [pS]; rfl
          refine Q26 (i := 6) (N := some 3) (v := ?_) (a' := ?_) #[tt, tt, tt, tt, tt, tt, tt] rfl rfl (by kernel_rfl) (fun _ _ _ h => h) (Or.inl ⟨by rfl, ?_⟩) ?_ ?_; rotate_left; intro w'; go_simp; with_reducible rfl; rotate_left; simp only [pS]; rfl
          refine done_ (by kernel_rfl) ?_
          go_wp2
          go_roundw
          case rel => exact ⟨k + 1, (RT.star a) :: r, A5, c5, by omega, by go_num, rfl, HRUN.out, by rw [hrow_cons]; exact HO7.out, HB7.out⟩
          case measure => simp [intOf]; omega
      · obtain ⟨o0, ⟨z0, z1, z2, z3⟩⟩ := nn
        dsimp only at hop n0 n1 n2 n3 n4
        subst hop
        subst hx
        subst hs
        have HA := Lib.hid (parts_f 0 3)
        have hln : ((b :: a :: r).length : Int) - 2 = (r.length : Int) := by simp only [List.length_cons]; omega
        have hpos : r.length < (b :: a :: r).length := by simp only [List.length_cons]; omega
        have hle : (r.length : Int) < ((b :: a :: r).length : Int) := by omega
        obtain ⟨gB, hBe, hgl, c0, c1⟩ := cells_half HH.out.own hpos
        subst hBe
        have hrw : hrow (b :: a :: r) = hrow r ++ (hv a ++ hv b) := by rw [hrow_cons, hrow_cons, List.append_assoc]
        rw [hrw, (hrow_at r a _).1] at c0
        rw [hrw, (hrow_at r a _).2] at c1
        obtain ⟨gB2, eB2, _, d0, d1⟩ := cells_half HH.out.own (j := r.length + 1) (by simp only [List.length_cons]; omega)
        obtain rfl : gB = gB2 := by simpa using eB2
        have hrw2 : hrow (b :: a :: r) = hrow (a :: r) ++ (hv b ++ []) := by rw [hrow_cons b, List.append_nil]
        rw [hrw2] at d0 d1
        have q0 := (hrow_at (a :: r) b []).1
        have q1 := (hrow_at (a :: r) b []).2
        rw [List.length_cons] at q0 q1
        rw [q0] at d0
        rw [q1] at d1
        clear eB2 q0 q1 hrw2
        have hcutt := cut_to (some ⟨gB, 0, none⟩) (b :: a :: r).length cb r.length (by omega) hcb
        have hda := HH.out.dep hl (a := a) (by simp)
        have hdb := HH.out.dep hl (a := b) (by simp)
        have hLL : r.length + 2 ≤ (b :: a :: r).length ∧ (b :: a :: r).length ≤ r.length + 2 := by simp only [List.length_cons]; omega
        clear hrw hpos
        generalize (b :: a :: r).length = L at hcutt hcb hst hln hle hLL ⊢
        have hle2 : (r.length : Int) + 1 < (L : Int) := by omega
        go_wp2_with fail
        refine (pattern_parts.calls 1 3 2 _ HA.out).mono ?_
        rintro e w2 ⟨rfl, ⟨nd, rfl⟩⟩
        have hsz0 : ((wo.alloc (.cells #[.int .i64 3, .int .u64 z0, .int .u64 z1, .int .u64 z2, .int .u64 z3] 45)).drewN nd).heap.size = wo.heap.size + 1 := by simp
        go_upto_region 14 with (fail)
        have hB5 : Below w.heap.size w (((wo.alloc (.cells #[.int .i64 3, .int .u64 z0, .int .u64 z1, .int .u64 z2, .int .u64 z3] 45)).drewN nd).alloc (.cells #[.int .i64 0, .int .i64 3] 142)) := (Q7 (HH.out.bel.alloc HH.out.bel.size _) nd).alloc (by rw [hsz0]; have := HH.out.bel.size; omega) _
        have hX5 : (((wo.alloc (.cells #[.int .i64 3, .int .u64 z0, .int .u64 z1, .int .u64 z2, .int .u64 z3] 45)).drewN nd).alloc (.cells #[.int .i64 0, .int .i64 3] 142)).heap[wo.heap.size + 1]? = some (.cells #[.int .i64 0, .int .i64 3] 142 (0, 0)) := by rw [← hsz0]; exact heap_alloc_new _ _
        have hO5 : (((wo.alloc (.cells #[.int .i64 3, .int .u64 z0, .int .u64 z1, .int .u64 z2, .int .u64 z3] 45)).drewN nd).alloc (.cells #[.int .i64 0, .int .i64 3] 142)).ownsRow w.heap.size 142 2 (.slice (some ⟨gB, 0, none⟩) (b :: a :: r).length cb) (b :: a :: r).length (hrow (b :: a :: r)) := (Fr.own_move (HH.out.own.alloc _) fun _ _ => rfl : ((wo.alloc (.cells #[.int .i64 3, .int .u64 z0, .int .u64 z1, .int .u64 z2, .int .u64 z3] 45)).drewN nd).ownsRow w.heap.size 142 2 (.slice (some ⟨gB, 0, none⟩) (b :: a :: r).length cb) (b :: a :: r).length (hrow (b :: a :: r))).alloc _
        have hOK : ∀ j, (((wo.alloc (.cells #[.int .i64 3, .int .u64 z0, .int .u64 z1, .int .u64 z2, .int .u64 z3] 45)).drewN nd).alloc (.cells #[.int .i64 0, .int .i64 3] 142)).cell? ⟨gB, j, none⟩ = wo.cell? ⟨gB, j, none⟩ := fun j => by exact (((Below.refl wo.heap.size wo).alloc (Nat.le_refl _) _ |> fun h => Q7 h nd).alloc (by rw [hsz0]; omega) _).cell (p := ⟨gB, j, none⟩) hgl
        have c0x := (hOK _).trans c0
        have c1x := (hOK _).trans c1
        have d0x := (hOK _).trans d0
        have d1x := (hOK _).trans d1
        clear hsz0 hOK c0 c1 d0 d1
        generalize ((wo.alloc (.cells #[.int .i64 3, .int .u64 z0, .int .u64 z1, .int .u64 z2, .int .u64 z3] 45)).drewN nd).alloc (.cells #[.int .i64 0, .int .i64 3] 142) = V at hB5 hX5 hO5 c0x c1x d0x d1x ⊢
        have HB5 := Lib.hid hB5; have HX5 := Lib.hid hX5; have HO5 := Lib.hid hO5
        clear hB5 hX5 hO5
        have HGV := Lib.hid (own_lt HO5.out gB rfl)
        have HLT : Hid (∀ W : World, Below V.heap.size V W → gB < W.heap.size) := Lib.hid fun W h => Nat.lt_of_lt_of_le HGV.out h.size
        have HD0 := Lib.hid (show (0 : Int) ≤ (a.dep : Int) ∧ (a.dep : Int) ≤ 10000 by omega)
        have HD1 := Lib.hid (show (0 : Int) ≤ (b.dep : Int) ∧ (b.dep : Int) ≤ 10000 by omega)
        have hwk : IntKind.i64.wrap ((r.length : Int) + 1) = (r.length : Int) + 1 := by rw [i64_w, wr (by omega) (by omega)]
        have hwt : ((r.length : Int) + 1).toNat = r.length + 1 := by omega
        have hw0 : (0 : Int) ≤ (r.length : Int) + 1 := by omega
        have hwr : wrap64 ((r.length : Int) + 1) = (r.length : Int) + 1 := wr (by omega) (by omega)
        cases h3 : (a.top == 3) with
        | true =>
          refine start_ (n := 37) (S := fun w' => w'.cell? ⟨gB, r.length * 2, none⟩ = some (.int .i64 (a.dep : Int)) ∧ w'.cell? ⟨gB, r.length * 2 + 1, none⟩ = some (.int .i64 a.top) ∧ w'.cell? ⟨gB, (r.length + 1) * 2, none⟩ = some (.int .i64 (b.dep : Int)) ∧ w'.cell? ⟨gB, (r.length + 1) * 2 + 1, none⟩ = some (.int .i64 b.top)) (ds := [36]) #[ff, ff, ff, ff, ff, ff, ff, ff, ff, ff, ff, ff, ff, ff, ff, ff, ff, ff, ff, ff, ff, ff, ff, ff, ff, ff, ff, ff, ff, ff, ff, ff, ff, ff, ff, ff, ff] (by kernel_rfl) rfl rfl ⟨c0x, c1x, d0x, d1x⟩ (fun hHeld => ?_)
          have HX6 : Hid (V.drew.heap[wo.heap.size + 1]? = some (.cells #[.int .i64 0, .int .i64 3] 142 (0, 0))) := HX5
          have HB6 : Hid (Below V.heap.size V V.drew) := Lib.hid (Below.refl _ _).drew
          clear c0x c1x d0x d1x
          generalize V.drew = w6 at HX6 HB6 hHeld ⊢
          refine Q26 (i := 0) (N := some 54) (v := ?_) (a' := ?_) #[tt, ff, ff, ff, ff, ff, ff, ff, ff, ff, ff, ff, ff, ff, ff, ff, ff, ff, ff, ff, ff, ff, ff, ff, ff, ff, ff, ff, ff, ff, ff, ff, ff, ff, ff, ff, ff] rfl rfl (by kernel_rfl) (fun _ _ _ h => h) (Or.inl ⟨by rfl, ?_⟩) ?_ ?_; rotate_left; intro w'; go_simp; with_reducible rfl; rotate_left; simp only [pS]; rfl
          refine Q26 (i := 1) (N := some 55) (v := ?_) (a' := ?_) #[tt, tt, ff, ff, ff, ff, ff, ff, ff, ff, ff, ff, ff, ff, ff, ff, ff, ff, ff, ff, ff, ff, ff, ff, ff, ff, ff, ff, ff, ff, ff, ff, ff, ff, ff, ff, ff] rfl rfl (by kernel_rfl) (fun _ _ _ h => h) (Or.inl ⟨by rfl, ?_⟩) ?_ ?_; rotate_left; intro w'; go_simp; with_reducible rfl; rotate_left; simp only [pS]; rfl
          refine Q26 (i := 2) (N := some 56) (v := ?_) (a' := ?_) #[tt, tt, tt, ff, ff, ff, ff, ff, ff, ff, ff, ff, ff, ff, ff, ff, ff, ff, ff, ff, ff, ff, ff, ff, ff, ff, ff, ff, ff, ff, ff, ff, ff, ff, ff, ff, ff] rfl rfl (by kernel_rfl) (fun _ _ _ h => h) (Or.inl ⟨by rfl, ?_⟩) ?_ ?_; rotate_left; intro w'; go_simp; with_reducible rfl; rotate_left; simp only [pS]; rfl
          refine Q26 (i := 3) (N := some 57) (v := ?_) (a' := ?_) #[tt, tt, tt, tt, ff, ff, ff, ff, ff, ff, ff, ff, ff, ff, ff, ff, ff, ff, ff, ff, ff, ff, ff, ff, ff, ff, ff, ff, ff, ff, ff, ff, ff, ff, ff, ff, ff] rfl rfl (by kernel_rfl) (fun _ _ _ h => h) (Or.inl ⟨by rfl, ?_⟩) ?_ ?_; rotate_left; intro w'; go_simp; with_reducible rfl; rotate_left; simp only [pS]; rfl
          refine take_ (i := 4) (N := some 58) (v := ?_) (a' := ?_) #[tt, tt, tt, tt, tt, ff, ff, ff, ff, ff, ff, ff, ff, ff, ff, ff, ff, ff, ff, ff, ff, ff, ff, ff, ff, ff, ff, ff, ff, ff, ff, ff, ff, ff, ff, ff, ff] rfl rfl (by kernel_rfl) (fun _ _ _ h => h) (Or.inl ⟨by rfl, ?_⟩) hHeld ?_ ?_; rotate_left; rintro w' ⟨s0, s1, s2, s3⟩; go_simp; with_reducible rfl; rotate_left; simp only [pS]; rfl
          refine Q26 (i := 5) (N := some 59) (v := ?_) (a' := ?_) #[tt, tt, tt, tt, tt, tt, ff, ff, ff, ff, ff, ff, ff, ff, ff, ff, ff, ff, ff, ff, ff, ff, ff, ff, ff, ff, ff, ff, ff, ff, ff, ff, ff, ff, ff, ff, ff] rfl rfl (by kernel_rfl) (fun _ _ _ h => h) (Or.inl ⟨by rfl, ?_⟩) ?_ ?_; rotate_left; intro w'; go_simp; with_reducible rfl; rotate_left; simp only [pS]; rfl
          refine Q26 (i := 6) (N := some 60) (v := ?_) (a' := ?_) #[tt, tt, tt, tt, tt, tt, tt, ff, ff, ff, ff, ff, ff, ff, ff, ff, ff, ff, ff, ff, ff, ff, ff, ff, ff, ff, ff, ff, ff, ff, ff, ff, ff, ff, ff, ff, ff] rfl rfl (by kernel_rfl) (fun _ _ _ h => h) (Or.inl ⟨by rfl, ?_⟩) ?_ ?_; rotate_left; intro w'; go_simp; with_reducible rfl; rotate_left; simp only [pS]; rfl
          refine Q26 (i := 7) (N := some 61) (v := ?_) (a' := ?_) #[tt, tt, tt, tt, tt, tt, tt, tt, ff, ff, ff, ff, ff, ff, ff, ff, ff, ff, ff, ff, ff, ff, ff, ff, ff, ff, ff, ff, ff, ff, ff, ff, ff, ff, ff, ff, ff] rfl rfl (by kernel_rfl) (fun _ _ _ h => h) (Or.inl ⟨by rfl, ?_⟩) ?_ ?_; rotate_left; intro w'; go_simp; with_reducible rfl; rotate_left; simp only [pS]; rfl
          refine Q26 (i := 8) (N := some 62) (v := ?_) (a' := ?_) #[tt, tt, tt, tt, tt, tt, tt, tt, tt, ff, ff, ff, ff, ff, ff, ff, ff, ff, ff, ff, ff, ff, ff, ff, ff, ff, ff, ff, ff, ff, ff, ff, ff, ff, ff, ff, ff] rfl rfl (by kernel_rfl) (fun _ _ _ h => h) (Or.inl ⟨by rfl, ?_⟩) ?_ ?_; rotate_left; intro w'; go_simp; with_reducible rfl; rotate_left; simp only [pS]; rfl
          refine take_ (i := 9) (N := some 63) (v := ?_) (a' := ?_) #[tt, tt, tt, tt, tt, tt, tt, tt, tt, tt, ff, ff, ff, ff, ff, ff, ff, ff, ff, ff, ff, ff, ff, ff, ff, ff, ff, ff, ff, ff, ff, ff, ff, ff, ff, ff, ff] rfl rfl (by kernel_rfl) (fun _ _ _ h => h) (Or.inl ⟨by rfl, ?_⟩) hHeld ?_ ?_; rotate_left; rintro w' ⟨s0, s1, s2, s3⟩; go_simp; with_reducible rfl; rotate_left; simp only [pS]; rfl
          refine Q26 (i := 10) (N := some 64) (v := ?_) (a' := ?_) #[tt, tt, tt, tt, tt, tt, tt, tt, tt, tt, tt, ff, ff, ff, ff, ff, ff, ff, ff, ff, ff, ff, ff, ff, ff, ff, ff, ff, ff, ff, ff, ff, ff, ff, ff, ff, ff] rfl rfl (by kernel_rfl) (fun _ _ _ h => h) (Or.inl ⟨by rfl, ?_⟩) ?_ ?_; rotate_left; intro w'; go_simp; with_reducible rfl; rotate_left; simp only [pS]; rfl
          refine Q26 (i := 11) (N := some 65) (v := ?_) (a' := ?_) #[tt, tt, tt, tt, tt, tt, tt, tt, tt, tt, tt, tt, ff, ff, ff, ff, ff, ff, ff, ff, ff, ff, ff, ff, ff, ff, ff, ff, ff, ff, ff, ff, ff, ff, ff, ff, ff] rfl rfl (by kernel_rfl) (fun _ _ _ h => h) (Or.inl ⟨by rfl, ?_⟩) ?_ ?_; rotate_left; intro w'; go_simp; with_reducible rfl; rotate_left; simp only [pS]; rfl
          refine Q26 (i := 12) (N := some 66) (v := undef) (a' := ?_) #[tt, tt, tt, tt, tt, tt, tt, tt, tt, tt, tt, tt, tt, ff, ff, ff, ff, ff, ff, ff, ff, ff, ff, ff, ff, ff, ff, ff, ff, ff, ff, ff, ff, ff, ff, ff, ff] rfl rfl (by kernel_rfl) (fun _ _ _ h => h) (Or.inr ⟨by rfl, rfl⟩) ?_ ?_; rotate_left; simp only [pS]; rfl
          refine Q26 (i := 13) (N := some 67) (v := undef) (a' := ?_) #[tt, tt, tt, tt, tt, tt, tt, tt, tt, tt, tt, tt, tt, tt, ff, ff, ff, ff, ff, ff, ff, ff, ff, ff, ff, ff, ff, ff, ff, ff, ff, ff, ff, ff, ff, ff, ff] rfl rfl (by kernel_rfl) (fun _ _ _ h => h) (Or.inr ⟨by rfl, rfl⟩) ?_ ?_; rotate_left; simp only [pS]; rfl
          refine Q26 (i := 14) (N := some 68) (v := undef) (a' := ?_) #[tt, tt, tt, tt, tt, tt, tt, tt, tt, tt, tt, tt, tt, tt, tt, ff, ff, ff, ff, ff, ff, ff, ff, ff, ff, ff, ff, ff, ff, ff, ff, ff, ff, ff, ff, ff, ff] rfl rfl (by kernel_rfl) (fun _ _ _ h => h) (Or.inr ⟨by rfl, rfl⟩) ?_ ?_; rotate_left; simp only [pS]; rfl
          refine Q26 (i := 15) (N := some 69) (v := undef) (a' := ?_) #[tt, tt, tt, tt, tt, tt, tt, tt, tt, tt, tt, tt, tt, tt, tt, tt, ff, ff, ff, ff, ff, ff, ff, ff, ff, ff, ff, ff, ff, ff, ff, ff, ff, ff, ff, ff, ff] rfl rfl (by kernel_rfl) (fun _ _ _ h => h) (Or.inr ⟨by rfl, rfl⟩) ?_ ?_; rotate_left; simp only [pS]; rfl
          refine Q26 (i := 16) (N := some 70) (v := undef) (a' := ?_) #[tt, tt, tt, tt, tt, tt, tt, tt, tt, tt, tt, tt, tt, tt, tt, tt, tt, ff, ff, ff, ff, ff, ff, ff, ff, ff, ff, ff, ff, ff, ff, ff, ff, ff, ff, ff, ff] rfl rfl (by kernel_rfl) (fun _ _ _ h => h) (Or.inr ⟨by rfl, rfl⟩) ?_ ?_; rotate_left; simp only [pS]; rfl
          refine Q26 (i := 17) (N := some 71) (v := undef) (a' := ?_) #[tt, tt, tt, tt, tt, tt, tt, tt, tt, tt, tt, tt, tt, tt, tt, tt, tt, tt, ff, ff, ff, ff, ff, ff, ff, ff, ff, ff, ff, ff, ff, ff, ff, ff, ff, ff, ff] rfl rfl (by kernel_rfl) (fun _ _ _ h => h) (Or.inr ⟨by rfl, rfl⟩) ?_ ?_; rotate_left; simp only [pS]; rfl
          refine Q26 (i := 18) (N := some 72) (v := ?_) (a' := ?_) #[tt, tt, tt, tt, tt, tt, tt, tt, tt, tt, tt, tt, tt, tt, tt, tt, tt, tt, tt, ff, ff, ff, ff, ff, ff, ff, ff, ff, ff, ff, ff, ff, ff, ff, ff, ff, ff] rfl rfl (by kernel_rfl) (fun _ _ _ h => h) (Or.inl ⟨by rfl, ?_⟩) ?_ ?_; rotate_left; intro w'; go_simp; with_reducible rfl; rotate_left; simp only [pS]; rfl
          refine Q26 (i := 20) (N := some 74) (v := ?_) (a' := ?_) #[tt, tt, tt, tt, tt, tt, tt, tt, tt, tt, tt, tt, tt, tt, tt, tt, tt, tt, tt, ff, tt, ff, ff, ff, ff, ff, ff, ff, ff, ff, ff, ff, ff, ff, ff, ff, ff] rfl rfl (by kernel_rfl) (fun _ _ _ h => h) (Or.inl ⟨by rfl, ?_⟩) ?_ ?_; rotate_left; intro w'; go_simp; with_reducible rfl; rotate_left; simp only [pS]; rfl
          refine Q26 (i := 21) (N := some 75) (v := ?_) (a' := ?_) #[tt, tt, tt, tt, tt, tt, tt, tt, tt, tt, tt, tt, tt, tt, tt, tt, tt, tt, tt, ff, tt, tt, ff, ff, ff, ff, ff, ff, ff, ff, ff, ff, ff, ff, ff, ff, ff] rfl rfl (by kernel_rfl) (fun _ _ _ h => h) (Or.inl ⟨by rfl, ?_⟩) ?_ ?_; rotate_left; intro w'; go_simp; with_reducible rfl; rotate_left; simp only [pS]; rfl
          refine Q26 (i := 22) (N := some 76) (v := ?_) (a' := ?_) #[tt, tt, tt, tt, tt, tt, tt, tt, tt, tt, tt, tt, tt, tt, tt, tt, tt, tt, tt, ff, tt, tt, tt, ff, ff, ff, ff, ff, ff, ff, ff, ff, ff, ff, ff, ff, ff] rfl rfl (by kernel_rfl) (fun _ _ _ h => h) (Or.inl ⟨by rfl, ?_⟩) ?_ ?_; rotate_left; intro w'; go_simp; with_reducible rfl; rotate_left; simp only [pS]; rfl
          refine Q26 (i := 23) (N := some 77) (v := ?_) (a' := ?_) #[tt, tt, tt, tt, tt, tt, tt, tt, tt, tt, tt, tt, tt, tt, tt, tt, tt, tt, tt, ff, tt, tt, tt, tt, ff, ff, ff, ff, ff, ff, ff, ff, ff, ff, ff, ff, ff] rfl rfl (by kernel_rfl) (fun _ _ _ h => h) (Or.inl ⟨by rfl, ?_⟩) ?_ ?_; rotate_left; intro w'; go_simp; with_reducible rfl; rotate_left; simp only [pS]; rfl
          refine Q26 (i := 24) (N := some 78) (v := ?_) (a' := ?_) #[tt, tt, tt, tt, tt, tt, tt, tt, tt, tt, tt, tt, tt, tt, tt, tt, tt, tt, tt, ff, tt, tt, tt, tt, tt, ff, ff, ff, ff, ff, ff, ff, ff, ff, ff, ff, ff] rfl rfl (by kernel_rfl) (fun _ _ _ h => h) (Or.inl ⟨by rfl, ?_⟩) ?_ ?_; rotate_left; intro w'; go_simp; with_reducible rfl; rotate_left; simp only [pS]; rfl
          refine take_ (i := 25) (N := some 79) (v := ?_) (a' := ?_) #[tt, tt, tt, tt, tt, tt, tt, tt, tt, tt, tt, tt, tt, tt, tt, tt, tt, tt, tt, ff, tt, tt, tt, tt, tt, tt, ff, ff, ff, ff, ff, ff, ff, ff, ff, ff, ff] rfl rfl (by kernel_rfl) (fun _ _ _ h => h) (Or.inl ⟨by rfl, ?_⟩) hHeld ?_ ?_; rotate_left; rintro w' ⟨s0, s1, s2, s3⟩; go_simp; with_reducible rfl; rotate_left; simp only [pS]; rfl
          refine Q26 (i := 26) (N := some 80) (v := ?_) (a' := ?_) #[tt, tt, tt, tt, tt, tt, tt, tt, tt, tt, tt, tt, tt, tt, tt, tt, tt, tt, tt, ff, tt, tt, tt, tt, tt, tt, tt, ff, ff, ff, ff, ff, ff, ff, ff, ff, ff] rfl rfl (by kernel_rfl) (fun _ _ _ h => h) (Or.inl ⟨by rfl, ?_⟩) ?_ ?_; rotate_left; intro w'; go_simp; with_reducible rfl; rotate_left; simp only [pS]; rfl
          refine Q26 (i := 27) (N := some 81) (v := ?_) (a' := ?_) #[tt, tt, tt, tt, tt, tt, tt, tt, tt, tt, tt, tt, tt, tt, tt, tt, tt, tt, tt, ff, tt, tt, tt, tt, tt, tt, tt, tt, ff, ff, ff, ff, ff, ff, ff, ff, ff] rfl rfl (by kernel_rfl) (fun _ _ _ h => h) (Or.inl ⟨by rfl, ?_⟩) ?_ ?_; rotate_left; intro w'; go_simp; with_reducible rfl; rotate_left; simp only [pS]; rfl
          refine Q26 (i := 28) (N := some 82) (v := ?_) (a' := ?_) #[tt, tt, tt, tt, tt, tt, tt, tt, tt, tt, tt, tt, tt, tt, tt, tt, tt, tt, tt, ff, tt, tt, tt, tt, tt, tt, tt, tt, tt, ff, ff, ff, ff, ff, ff, ff, ff] rfl rfl (by kernel_rfl) (fun _ _ _ h => h) (Or.inl ⟨by rfl, ?_⟩) ?_ ?_; rotate_left; intro w'; go_simp; with_reducible rfl; rotate_left; simp only [pS]; rfl
          refine Q26 (i := 29) (N := some 83) (v := ?_) (a' := ?_) #[tt, tt, tt, tt, tt, tt, tt, tt, tt, tt, tt, tt, tt, tt, tt, tt, tt, tt, tt, ff, tt, tt, tt, tt, tt, tt, tt, tt, tt, tt, ff, ff, ff, ff, ff, ff, ff] rfl rfl (by kernel_rfl) (fun _ _ _ h => h) (Or.inl ⟨by rfl, ?_⟩) ?_ ?_; rotate_left; intro w'; go_simp; with_reducible rfl; rotate_left; simp only [pS]; rfl
          refine Q26 (i := 30) (N := some 84) (v := ?_) (a' := ?_) #[tt, tt, tt, tt, tt, tt, tt, tt, tt, tt, tt, tt, tt, tt, tt, tt, tt, tt, tt, ff, tt, tt, tt, tt, tt, tt, tt, tt, tt, tt, tt, ff, ff, ff, ff, ff, ff] rfl rfl (by kernel_rfl) (fun _ _ _ h => h) (Or.inl ⟨by rfl, ?_⟩) ?_ ?_; rotate_left; intro w'; go_simp; with_reducible rfl; rotate_left; simp only [pS]; rfl
          refine take_ (i := 31) (N := some 85) (v := ?_) (a' := ?_) #[tt, tt, tt, tt, tt, tt, tt, tt, tt, tt, tt, tt, tt, tt, tt, tt, tt, tt, tt, ff, tt, tt, tt, tt, tt, tt, tt, tt, tt, tt, tt, tt, ff, ff, ff, ff, ff] rfl rfl (by kernel_rfl) (fun _ _ _ h => h) (Or.inl ⟨by rfl, ?_⟩) hHeld ?_ ?_; rotate_left; rintro w' ⟨s0, s1, s2, s3⟩; go_simp; with_reducible rfl; rotate_left; simp only [pS]; rfl
          refine Q26 (i := 32) (N := some 86) (v := ?_) (a' := ?_) #[tt, tt, tt, tt, tt, tt, tt, tt, tt, tt, tt, tt, tt, tt, tt, tt, tt, tt, tt, ff, tt, tt, tt, tt, tt, tt, tt, tt, tt, tt, tt, tt, tt, ff, ff, ff, ff] rfl rfl (by kernel_rfl) (fun _ _ _ h => h) (Or.inl ⟨by rfl, ?_⟩) ?_ ?_; rotate_left; intro w'; go_simp; with_reducible rfl; rotate_left; simp only [pS]; rfl
          refine one_ (i := 19) (N := some 73) #[tt, tt, tt, tt, tt, tt, tt, tt, tt, tt, tt, tt, tt, tt, tt, tt, tt, tt, tt, tt, tt, tt, tt, tt, tt, tt, tt, tt, tt, tt, tt, tt, tt, ff, ff, ff, ff] rfl rfl (by kernel_rfl) (by decide) (fun K hK => ?_)
          refine goesV_ Try.func71 (by kernel_rfl) rfl #[.agg #[.int .i64 (a.dep : Int), .int .i64 a.top], .bool true] (by rfl) rfl rfl rfl (by (try simp only [List.map_toArray, List.map_cons, List.map_nil]); first | done | rfl) ?_
          refine (in_d (a.dep : Int) a.top true _ HD0.out.1 HD0.out.2).mono ?_
          rintro e w7 ⟨rfl, hb⟩
          have hS := (show (fun w' => w'.cell? ⟨gB, r.length * 2, none⟩ = some (.int .i64 (a.dep : Int)) ∧ w'.cell? ⟨gB, r.length * 2 + 1, none⟩ = some (.int .i64 a.top) ∧ w'.cell? ⟨gB, (r.length + 1) * 2, none⟩ = some (.int .i64 (b.dep : Int)) ∧ w'.cell? ⟨gB, (r.length + 1) * 2 + 1, none⟩ = some (.int .i64 b.top)) w7 from ⟨(hb.cell (p := ⟨gB, _, none⟩) (HLT.out _ HB6.out)).trans hHeld.1, (hb.cell (p := ⟨gB, _, none⟩) (HLT.out _ HB6.out)).trans hHeld.2.1, (hb.cell (p := ⟨gB, _, none⟩) (HLT.out _ HB6.out)).trans hHeld.2.2.1, (hb.cell (p := ⟨gB, _, none⟩) (HLT.out _ HB6.out)).trans hHeld.2.2.2⟩)
          have hx := hb.block _ (Fr.heap_lt' HX6.out) |>.trans HX6.out
          have HX6' := Lib.hid hx
          have HB6' := Lib.hid (HB6.out.trans (hb.mono HB6.out.size))
          clear hb hx HX6 HB6 hHeld
          rename Hid (w7.heap[wo.heap.size + 1]? = _) => HX6
          rename Hid (Below V.heap.size V w7) => HB6
          refine ⟨_, rfl, ?_⟩
          refine hK.out _ _ hS (fun hHeld => ?_)
          clear hK K
          refine norm_ (a' := ?_) ?_ ?_; rotate_left; show Act.put _ (some 73) _ = _; simp only [pS]; rfl
          refine one_ (i := 33) (N := some 87) #[tt, tt, tt, tt, tt, tt, tt, tt, tt, tt, tt, tt, tt, tt, tt, tt, tt, tt, tt, tt, tt, tt, tt, tt, tt, tt, tt, tt, tt, tt, tt, tt, tt, tt, ff, ff, ff] rfl rfl (by kernel_rfl) (by decide) (fun K hK => ?_)
          refine goesV_ Try.func71 (by kernel_rfl) rfl #[.agg #[.int .i64 (b.dep : Int), .int .i64 b.top], .bool (b.top == 4)] (by rfl) rfl rfl rfl (by (try simp only [List.map_toArray, List.map_cons, List.map_nil]); first | done | rfl) ?_
          refine (in_d (b.dep : Int) b.top (b.top == 4) _ HD1.out.1 HD1.out.2).mono ?_
          rintro e w7 ⟨rfl, hb⟩
          have hS := (show (fun w' => w'.cell? ⟨gB, r.length * 2, none⟩ = some (.int .i64 (a.dep : Int)) ∧ w'.cell? ⟨gB, r.length * 2 + 1, none⟩ = some (.int .i64 a.top) ∧ w'.cell? ⟨gB, (r.length + 1) * 2, none⟩ = some (.int .i64 (b.dep : Int)) ∧ w'.cell? ⟨gB, (r.length + 1) * 2 + 1, none⟩ = some (.int .i64 b.top)) w7 from ⟨(hb.cell (p := ⟨gB, _, none⟩) (HLT.out _ HB6.out)).trans hHeld.1, (hb.cell (p := ⟨gB, _, none⟩) (HLT.out _ HB6.out)).trans hHeld.2.1, (hb.cell (p := ⟨gB, _, none⟩) (HLT.out _ HB6.out)).trans hHeld.2.2.1, (hb.cell (p := ⟨gB, _, none⟩) (HLT.out _ HB6.out)).trans hHeld.2.2.2⟩)
          have hx := hb.block _ (Fr.heap_lt' HX6.out) |>.trans HX6.out
          have HX6' := Lib.hid hx
          have HB6' := Lib.hid (HB6.out.trans (hb.mono HB6.out.size))
          clear hb hx HX6 HB6 hHeld
          rename Hid (w7.heap[wo.heap.size + 1]? = _) => HX6
          rename Hid (Below V.heap.size V w7) => HB6
          refine ⟨_, rfl, ?_⟩
          refine hK.out _ _ hS (fun hHeld => ?_)
          clear hK K
          refine norm_ (a' := ?_) ?_ ?_; rotate_left; show Act.put _ (some 87) _ = _; simp only [pS]; rfl
          refine Q26 (i := 34) (N := some 88) (v := ?_) (a' := ?_) #[tt, tt, tt, tt, tt, tt, tt, tt, tt, tt, tt, tt, tt, tt, tt, tt, tt, tt, tt, tt, tt, tt, tt, tt, tt, tt, tt, tt, tt, tt, tt, tt, tt, tt, tt, ff, ff] rfl rfl (by kernel_rfl) (fun _ _ _ h => h) (Or.inl ⟨by rfl, ?_⟩) ?_ ?_; rotate_left; intro w'; go_simp; with_reducible rfl; rotate_left; simp only [pS]; rfl
          refine Q26 (i := 35) (N := some 89) (v := ?_) (a' := ?_) #[tt, tt, tt, tt, tt, tt, tt, tt, tt, tt, tt, tt, tt, tt, tt, tt, tt, tt, tt, tt, tt, tt, tt, tt, tt, tt, tt, tt, tt, tt, tt, tt, tt, tt, tt, tt, ff] rfl rfl (by kernel_rfl) (fun _ _ _ h => h) (Or.inl ⟨by rfl, ?_⟩) ?_ ?_; rotate_left; intro w'; go_simp; with_reducible rfl; rotate_left; simp only [pS]; rfl
          obtain ⟨px, fx⟩ : w7.cell? ⟨wo.heap.size + 1, 0, none⟩ = some (.int .i64 0) ∧ w7.frozen? ⟨wo.heap.size + 1, 0, none⟩ = false := ⟨Q10 HX6.out 0, Q11 HX6.out 0⟩
          refine last_ (i := 36) (N := none) #[tt, tt, tt, tt, tt, tt, tt, tt, tt, tt, tt, tt, tt, tt, tt, tt, tt, tt, tt, tt, tt, tt, tt, tt, tt, tt, tt, tt, tt, tt, tt, tt, tt, tt, tt, tt, tt] rfl rfl (by kernel_rfl) (by decide) (fun K hK => ?_)
          (with_reducible refine skip_ (w1 := ?_) ?hw_ ?hN_ ?_ ?_); (case hw_ => rfl); (case hN_ => rfl)
          rotate_left
          · go_simp
            rfl
          refine hK.out _ _ ?_
          clear hK K
          refine done_ (by kernel_rfl) ?_
          have hdv : (if inD true (a.dep : Int) < inD (b.top == 4) (b.dep : Int) then inD (b.top == 4) (b.dep : Int) else inD true (a.dep : Int)) = (((RT.seq a b).dep : Nat) : Int) := (congr (congrArg mx (in_row a true (by rw [h3]; rfl))) (in_alt b)).trans (mx_nat _ _)
          rw [hdv]
          have HDV := Lib.hid hdv
          clear hdv h3
          clear hwk hwt hw0 hwr
          go_upto_region 17 with (fail)
          have hB5 : Below w.heap.size w (w7.setCell ⟨wo.heap.size + 1, 0, none⟩ (.int .i64 ((RT.seq a b).dep : Int))) := (HB5.out.trans (HB6.out.mono HB5.out.size)).setCell (by have := HH.out.bel.size; dsimp only; omega) _
          have hX5 : (w7.setCell ⟨wo.heap.size + 1, 0, none⟩ (.int .i64 ((RT.seq a b).dep : Int))).heap[wo.heap.size + 1]? = some (.cells #[.int .i64 ((RT.seq a b).dep : Int), .int .i64 3] 142 (0, 0)) := blk_set HX6.out 0 _
          have hO5 : (w7.setCell ⟨wo.heap.size + 1, 0, none⟩ (.int .i64 ((RT.seq a b).dep : Int))).ownsRow w.heap.size 142 2 (.slice (some ⟨gB, 0, none⟩) (b :: a :: r).length cb) (b :: a :: r).length (hrow (b :: a :: r)) := own_setCell (pw_own_below HO5.out HB6.out) (fun e => by have := own_lt HH.out.own _ e.symm; dsimp only at this; omega) _
          clear px fx hHeld
          generalize w7.setCell ⟨wo.heap.size + 1, 0, none⟩ (.int .i64 ((RT.seq a b).dep : Int)) = w5 at hB5 hX5 hO5 ⊢
          have hO6 := own_take hO5 (m := r.length) (by simp only [List.length_cons]; omega)
          rw [hrow_cons, hrow_cons, List.append_assoc, List.take_append_of_le_length (by rw [hrow_len]; omega), List.take_of_length_le (by rw [hrow_len]; omega)] at hO6
          have p0 : w5.cell? ⟨wo.heap.size + 1, 0, none⟩ = some (.int .i64 ((RT.seq a b).dep : Int)) := Q10 hX5 0
          have p1 : w5.cell? ⟨wo.heap.size + 1, 1, none⟩ = some (.int .i64 3) := Q10 hX5 1
          have HX5 := Lib.hid hX5; have HO6 := Lib.hid hO6; have HB5 := Lib.hid hB5
          have HRL := Lib.hid (show r.length ≤ 4096 by omega)
          have HNE := Lib.hid (show some (wo.heap.size + 1) ≠ (Value.slice (some ⟨gB, 0, none⟩) r.length cb).ownBlock from fun e => by have := own_lt (own_take HH.out.own (m := r.length) (by simp only [List.length_cons]; omega)) _ e.symm; omega)
          clear hX5 hO5 hO6 hB5
          go_wp2_with fail
          refine start_ (n := 7) (S := fun w' => w'.cell? ⟨wo.heap.size + 1, 0, none⟩ = some (.int .i64 ((RT.seq a b).dep : Int)) ∧ w'.cell? ⟨wo.heap.size + 1, 1, none⟩ = some (.int .i64 3)) (ds := []) #[ff, ff, ff, ff, ff, ff, ff] (by kernel_rfl) rfl rfl ⟨p0, p1⟩ (fun hHeld => ?_)
          clear p0 p1
          refine Q26 (i := 0) (N := some 112) (v := ?_) (a' := ?_) #[tt, ff, ff, ff, ff, ff, ff] rfl rfl (by kernel_rfl) (fun _ _ _ h => h) (Or.inl ⟨by rfl, ?_⟩) ?_ ?_; rotate_left; intro w'; go_simp; with_reducible rfl; rotate_left; simp only [pS]; rfl
          refine Q26 (i := 1) (N := some 113) (v := ?_) (a' := ?_) #[tt, tt, ff, ff, ff, ff, ff] rfl rfl (by kernel_rfl) (fun _ _ _ h => h) (Or.inl ⟨by rfl, ?_⟩) ?_ ?_; rotate_left; intro w'; go_simp; with_reducible rfl; rotate_left; simp only [pS]; rfl
          refine Q26 (i := 2) (N := some 114) (v := ?_) (a' := ?_) #[tt, tt, tt, ff, ff, ff, ff] rfl rfl (by kernel_rfl) (fun _ _ _ h => h) (Or.inl ⟨by rfl, ?_⟩) ?_ ?_; rotate_left; intro w'; go_simp; with_reducible rfl; rotate_left; simp only [pS]; rfl
          refine take_ (i := 3) (N := some 115) (v := ?_) (a' := ?_) #[tt, tt, tt, tt, ff, ff, ff] rfl rfl (by kernel_rfl) (fun _ _ _ h => h) (Or.inl ⟨by rfl, ?_⟩) hHeld ?_ ?_; rotate_left; rintro w' ⟨s0, s1⟩; go_simp; with_reducible rfl; rotate_left; simp only [pS]; rfl
          refine one_ (i := 4) (N := some 116) #[tt, tt, tt, tt, tt, ff, ff] rfl rfl (by kernel_rfl) (by decide) (fun K hK => ?_)
          refine value_ (w1 := ?_) (v := ?_) (by rfl) rfl ?_ ?_
          rotate_left 2
          · go_simp
            constructor
            · rfl
            · rfl
          refine hK.out _ _ ⟨(Q10 (Q15 (Q17 HX5.out) _) 0).trans rfl, (Q10 (Q15 (Q17 HX5.out) _) 1).trans rfl⟩ (fun hHeld => ?_)
          clear hK K
          refine norm_ (a' := ?_) ?_ ?_; rotate_left; show Act.put _ (some 116) _ = _; simp only [pS]; rfl
          refine one_ (i := 5) (N := some 117) #[tt, tt, tt, tt, tt, tt, ff] rfl rfl (by kernel_rfl) (by decide) (fun K hK => ?_)
          refine step_append_cells (w0 := w) (W := w5.drew) w.heap.size (by rfl) (.tmp 114) (.tmp 116) 140 142 _ 2 16 rfl Try.underlying140 info142' rfl (by decide) (by decide) (.slice (some ⟨gB, 0, none⟩) r.length cb) r.length (hrow r) [.int .i64 ((RT.seq a b).dep : Int), .int .i64 3] rfl rfl rfl (one_hv (RT.seq a b)) (Fr.own_move HO6.out fun _ _ => rfl) (below_drew HB5.out) HB5.out.size (by have := HRL.out; omega) ?_
          intro v1 w6 ho1 hb1 hg1 hat1
          obtain ⟨A5, c5, rfl⟩ := own_slice ho1
          have hx1 := blk_grown (Q17 HX5.out) hg1 HNE.out
          have hS : w6.cell? ⟨wo.heap.size + 1, 0, none⟩ = some (.int .i64 ((RT.seq a b).dep : Int)) ∧ w6.cell? ⟨wo.heap.size + 1, 1, none⟩ = some (.int .i64 3) := ⟨Q10 hx1 0, Q10 hx1 1⟩
          have HO7 := Lib.hid ho1; have HB7 := Lib.hid hb1
          clear ho1 hb1 hg1 hat1 hx1
          refine hK.out _ _ hS (fun hHeld => ?_)
          clear hK K
          refine norm_ (a' := ?_) ?_ ?_; rotate_left; show Act.put _ (some 117) _ = _; simp only [pS]; rfl
          refine Q26 (i := 6) (N := some 3) (v := ?_) (a' := ?_) #[tt, tt, tt, tt, tt, tt, tt] rfl rfl (by kernel_rfl) (fun _ _ _ h => h) (Or.inl ⟨by rfl, ?_⟩) ?_ ?_; rotate_left; intro w'; go_simp; with_reducible rfl; rotate_left; simp only [pS]; rfl
          refine done_ (by kernel_rfl) ?_
          go_wp2
          go_roundw
          case rel => exact ⟨k + 1, (RT.seq a b) :: r, A5, c5, by omega, by go_num, rfl, HRUN.out, by rw [hrow_cons]; exact HO7.out, HB7.out⟩
          case measure => simp [intOf]; omega
        | false =>
          refine start_ (n := 37) (S := fun w' => w'.cell? ⟨gB, r.length * 2, none⟩ = some (.int .i64 (a.dep : Int)) ∧ w'.cell? ⟨gB, r.length * 2 + 1, none⟩ = some (.int .i64 a.top) ∧ w'.cell? ⟨gB, (r.length + 1) * 2, none⟩ = some (.int .i64 (b.dep : Int)) ∧ w'.cell? ⟨gB, (r.length + 1) * 2 + 1, none⟩ = some (.int .i64 b.top)) (ds := [36]) #[ff, ff, ff, ff, ff, ff, ff, ff, ff, ff, ff, ff, ff, ff, ff, ff, ff, ff, ff, ff, ff, ff, ff, ff, ff, ff, ff, ff, ff, ff, ff, ff, ff, ff, ff, ff, ff] (by kernel_rfl) rfl rfl ⟨c0x, c1x, d0x, d1x⟩ (fun hHeld => ?_)
          have HX6 : Hid (V.drew.heap[wo.heap.size + 1]? = some (.cells #[.int .i64 0, .int .i64 3] 142 (0, 0))) := HX5
          have HB6 : Hid (Below V.heap.size V V.drew) := Lib.hid (Below.refl _ _).drew
          clear c0x c1x d0x d1x
          generalize V.drew = w6 at HX6 HB6 hHeld ⊢
          refine Q26 (i := 0) (N := some 54) (v := ?_) (a' := ?_) #[tt, ff, ff, ff, ff, ff, ff, ff, ff, ff, ff, ff, ff, ff, ff, ff, ff, ff, ff, ff, ff, ff, ff, ff, ff, ff, ff, ff, ff, ff, ff, ff, ff, ff, ff, ff, ff] rfl rfl (by kernel_rfl) (fun _ _ _ h => h) (Or.inl ⟨by rfl, ?_⟩) ?_ ?_; rotate_left; intro w'; go_simp; with_reducible rfl; rotate_left; simp only [pS]; rfl
          refine Q26 (i := 1) (N := some 55) (v := ?_) (a' := ?_) #[tt, tt, ff, ff, ff, ff, ff, ff, ff, ff, ff, ff, ff, ff, ff, ff, ff, ff, ff, ff, ff, ff, ff, ff, ff, ff, ff, ff, ff, ff, ff, ff, ff, ff, ff, ff, ff] rfl rfl (by kernel_rfl) (fun _ _ _ h => h) (Or.inl ⟨by rfl, ?_⟩) ?_ ?_; rotate_left; intro w'; go_simp; with_reducible rfl; rotate_left; simp only [pS]; rfl
          refine Q26 (i := 2) (N := some 56) (v := ?_) (a' := ?_) #[tt, tt, tt, ff, ff, ff, ff, ff, ff, ff, ff, ff, ff, ff, ff, ff, ff, ff, ff, ff, ff, ff, ff, ff, ff, ff, ff, ff, ff, ff, ff, ff, ff, ff, ff, ff, ff] rfl rfl (by kernel_rfl) (fun _ _ _ h => h) (Or.inl ⟨by rfl, ?_⟩) ?_ ?_; rotate_left; intro w'; go_simp; with_reducible rfl; rotate_left; simp only [pS]; rfl
          refine Q26 (i := 3) (N := some 57) (v := ?_) (a' := ?_) #[tt, tt, tt, tt, ff, ff, ff, ff, ff, ff, ff, ff, ff, ff, ff, ff, ff, ff, ff, ff, ff, ff, ff, ff, ff, ff, ff, ff, ff, ff, ff, ff, ff, ff, ff, ff, ff] rfl rfl (by kernel_rfl) (fun _ _ _ h => h) (Or.inl ⟨by rfl, ?_⟩) ?_ ?_; rotate_left; intro w'; go_simp; with_reducible rfl; rotate_left; simp only [pS]; rfl
          refine take_ (i := 4) (N := some 58) (v := ?_) (a' := ?_) #[tt, tt, tt, tt, tt, ff, ff, ff, ff, ff, ff, ff, ff, ff, ff, ff, ff, ff, ff, ff, ff, ff, ff, ff, ff, ff, ff, ff, ff, ff, ff, ff, ff, ff, ff, ff, ff] rfl rfl (by kernel_rfl) (fun _ _ _ h => h) (Or.inl ⟨by rfl, ?_⟩) hHeld ?_ ?_; rotate_left; rintro w' ⟨s0, s1, s2, s3⟩; go_simp; with_reducible rfl; rotate_left; simp only [pS]; rfl
          refine Q26 (i := 5) (N := some 59) (v := ?_) (a' := ?_) #[tt, tt, tt, tt, tt, tt, ff, ff, ff, ff, ff, ff, ff, ff, ff, ff, ff, ff, ff, ff, ff, ff, ff, ff, ff, ff, ff, ff, ff, ff, ff, ff, ff, ff, ff, ff, ff] rfl rfl (by kernel_rfl) (fun _ _ _ h => h) (Or.inl ⟨by rfl, ?_⟩) ?_ ?_; rotate_left; intro w'; go_simp; with_reducible rfl; rotate_left; simp only [pS]; rfl
          refine Q26 (i := 6) (N := some 60) (v := ?_) (a' := ?_) #[tt, tt, tt, tt, tt, tt, tt, ff, ff, ff, ff, ff, ff, ff, ff, ff, ff, ff, ff, ff, ff, ff, ff, ff, ff, ff, ff, ff, ff, ff, ff, ff, ff, ff, ff, ff, ff] rfl rfl (by kernel_rfl) (fun _ _ _ h => h) (Or.inl ⟨by rfl, ?_⟩) ?_ ?_; rotate_left; intro w'; go_simp; with_reducible rfl; rotate_left; simp only [pS]; rfl
          refine Q26 (i := 7) (N := some 61) (v := ?_) (a' := ?_) #[tt, tt, tt, tt, tt, tt, tt, tt, ff, ff, ff, ff, ff, ff, ff, ff, ff, ff, ff, ff, ff, ff, ff, ff, ff, ff, ff, ff, ff, ff, ff, ff, ff, ff, ff, ff, ff] rfl rfl (by kernel_rfl) (fun _ _ _ h => h) (Or.inl ⟨by rfl, ?_⟩) ?_ ?_; rotate_left; intro w'; go_simp; with_reducible rfl; rotate_left; simp only [pS]; rfl
          refine Q26 (i := 8) (N := some 62) (v := ?_) (a' := ?_) #[tt, tt, tt, tt, tt, tt, tt, tt, tt, ff, ff, ff, ff, ff, ff, ff, ff, ff, ff, ff, ff, ff, ff, ff, ff, ff, ff, ff, ff, ff, ff, ff, ff, ff, ff, ff, ff] rfl rfl (by kernel_rfl) (fun _ _ _ h => h) (Or.inl ⟨by rfl, ?_⟩) ?_ ?_; rotate_left; intro w'; go_simp; with_reducible rfl; rotate_left; simp only [pS]; rfl
          refine take_ (i := 9) (N := some 63) (v := ?_) (a' := ?_) #[tt, tt, tt, tt, tt, tt, tt, tt, tt, tt, ff, ff, ff, ff, ff, ff, ff, ff, ff, ff, ff, ff, ff, ff, ff, ff, ff, ff, ff, ff, ff, ff, ff, ff, ff, ff, ff] rfl rfl (by kernel_rfl) (fun _ _ _ h => h) (Or.inl ⟨by rfl, ?_⟩) hHeld ?_ ?_; rotate_left; rintro w' ⟨s0, s1, s2, s3⟩; go_simp; with_reducible rfl; rotate_left; simp only [pS]; rfl
          refine Q26 (i := 10) (N := some 64) (v := ?_) (a' := ?_) #[tt, tt, tt, tt, tt, tt, tt, tt, tt, tt, tt, ff, ff, ff, ff, ff, ff, ff, ff, ff, ff, ff, ff, ff, ff, ff, ff, ff, ff, ff, ff, ff, ff, ff, ff, ff, ff] rfl rfl (by kernel_rfl) (fun _ _ _ h => h) (Or.inl ⟨by rfl, ?_⟩) ?_ ?_; rotate_left; intro w'; go_simp; with_reducible rfl; rotate_left; simp only [pS]; rfl
          refine Q26 (i := 11) (N := some 65) (v := ?_) (a' := ?_) #[tt, tt, tt, tt, tt, tt, tt, tt, tt, tt, tt, tt, ff, ff, ff, ff, ff, ff, ff, ff, ff, ff, ff, ff, ff, ff, ff, ff, ff, ff, ff, ff, ff, ff, ff, ff, ff] rfl rfl (by kernel_rfl) (fun _ _ _ h => h) (Or.inl ⟨by rfl, ?_⟩) ?_ ?_; rotate_left; intro w'; go_simp; with_reducible rfl; rotate_left; simp only [pS]; rfl
          refine Q26 (i := 12) (N := some 66) (v := ?_) (a' := ?_) #[tt, tt, tt, tt, tt, tt, tt, tt, tt, tt, tt, tt, tt, ff, ff, ff, ff, ff, ff, ff, ff, ff, ff, ff, ff, ff, ff, ff, ff, ff, ff, ff, ff, ff, ff, ff, ff] rfl rfl (by kernel_rfl) (fun _ _ _ h => h) (Or.inl ⟨by rfl, ?_⟩) ?_ ?_; rotate_left; intro w'; go_simp; with_reducible rfl; rotate_left; simp only [pS]; rfl
          refine Q26 (i := 13) (N := some 67) (v := ?_) (a' := ?_) #[tt, tt, tt, tt, tt, tt, tt, tt, tt, tt, tt, tt, tt, tt, ff, ff, ff, ff, ff, ff, ff, ff, ff, ff, ff, ff, ff, ff, ff, ff, ff, ff, ff, ff, ff, ff, ff] rfl rfl (by kernel_rfl) (fun _ _ _ h => h) (Or.inl ⟨by rfl, ?_⟩) ?_ ?_; rotate_left; intro w'; go_simp; with_reducible rfl; rotate_left; simp only [pS]; rfl
          refine Q26 (i := 14) (N := some 68) (v := ?_) (a' := ?_) #[tt, tt, tt, tt, tt, tt, tt, tt, tt, tt, tt, tt, tt, tt, tt, ff, ff, ff, ff, ff, ff, ff, ff, ff, ff, ff, ff, ff, ff, ff, ff, ff, ff, ff, ff, ff, ff] rfl rfl (by kernel_rfl) (fun _ _ _ h => h) (Or.inl ⟨by rfl, ?_⟩) ?_ ?_; rotate_left; intro w'; go_simp; with_reducible rfl; rotate_left; simp only [pS]; rfl
          refine Q26 (i := 15) (N := some 69) (v := ?_) (a' := ?_) #[tt, tt, tt, tt, tt, tt, tt, tt, tt, tt, tt, tt, tt, tt, tt, tt, ff, ff, ff, ff, ff, ff, ff, ff, ff, ff, ff, ff, ff, ff, ff, ff, ff, ff, ff, ff, ff] rfl rfl (by kernel_rfl) (fun _ _ _ h => h) (Or.inl ⟨by rfl, ?_⟩) ?_ ?_; rotate_left; intro w'; go_simp; with_reducible rfl; rotate_left; simp only [pS]; rfl
          refine take_ (i := 16) (N := some 70) (v := ?_) (a' := ?_) #[tt, tt, tt, tt, tt, tt, tt, tt, tt, tt, tt, tt, tt, tt, tt, tt, tt, ff, ff, ff, ff, ff, ff, ff, ff, ff, ff, ff, ff, ff, ff, ff, ff, ff, ff, ff, ff] rfl rfl (by kernel_rfl) (fun _ _ _ h => h) (Or.inl ⟨by rfl, ?_⟩) hHeld ?_ ?_; rotate_left; rintro w' ⟨s0, s1, s2, s3⟩; go_simp; with_reducible rfl; rotate_left; simp only [pS]; rfl
          refine Q26 (i := 17) (N := some 71) (v := ?_) (a' := ?_) #[tt, tt, tt, tt, tt, tt, tt, tt, tt, tt, tt, tt, tt, tt, tt, tt, tt, tt, ff, ff, ff, ff, ff, ff, ff, ff, ff, ff, ff, ff, ff, ff, ff, ff, ff, ff, ff] rfl rfl (by kernel_rfl) (fun _ _ _ h => h) (Or.inl ⟨by rfl, ?_⟩) ?_ ?_; rotate_left; intro w'; go_simp; with_reducible rfl; rotate_left; simp only [pS]; rfl
          refine Q26 (i := 18) (N := some 72) (v := ?_) (a' := ?_) #[tt, tt, tt, tt, tt, tt, tt, tt, tt, tt, tt, tt, tt, tt, tt, tt, tt, tt, tt, ff, ff, ff, ff, ff, ff, ff, ff, ff, ff, ff, ff, ff, ff, ff, ff, ff, ff] rfl rfl (by kernel_rfl) (fun _ _ _ h => h) (Or.inl ⟨by rfl, ?_⟩) ?_ ?_; rotate_left; intro w'; go_simp; with_reducible rfl; rotate_left; simp only [pS]; rfl
          refine Q26 (i := 20) (N := some 74) (v := ?_) (a' := ?_) #[tt, tt, tt, tt, tt, tt, tt, tt, tt, tt, tt, tt, tt, tt, tt, tt, tt, tt, tt, ff, tt, ff, ff, ff, ff, ff, ff, ff, ff, ff, ff, ff, ff, ff, ff, ff, ff] rfl rfl (by kernel_rfl) (fun _ _ _ h => h) (Or.inl ⟨by rfl, ?_⟩) ?_ ?_; rotate_left; intro w'; go_simp; with_reducible rfl; rotate_left; simp only [pS]; rfl
          refine Q26 (i := 21) (N := some 75) (v := ?_) (a' := ?_) #[tt, tt, tt, tt, tt, tt, tt, tt, tt, tt, tt, tt, tt, tt, tt, tt, tt, tt, tt, ff, tt, tt, ff, ff, ff, ff, ff, ff, ff, ff, ff, ff, ff, ff, ff, ff, ff] rfl rfl (by kernel_rfl) (fun _ _ _ h => h) (Or.inl ⟨by rfl, ?_⟩) ?_ ?_; rotate_left; intro w'; go_simp; with_reducible rfl; rotate_left; simp only [pS]; rfl
          refine Q26 (i := 22) (N := some 76) (v := ?_) (a' := ?_) #[tt, tt, tt, tt, tt, tt, tt, tt, tt, tt, tt, tt, tt, tt, tt, tt, tt, tt, tt, ff, tt, tt, tt, ff, ff, ff, ff, ff, ff, ff, ff, ff, ff, ff, ff, ff, ff] rfl rfl (by kernel_rfl) (fun _ _ _ h => h) (Or.inl ⟨by rfl, ?_⟩) ?_ ?_; rotate_left; intro w'; go_simp; with_reducible rfl; rotate_left; simp only [pS]; rfl
          refine Q26 (i := 23) (N := some 77) (v := ?_) (a' := ?_) #[tt, tt, tt, tt, tt, tt, tt, tt, tt, tt, tt, tt, tt, tt, tt, tt, tt, tt, tt, ff, tt, tt, tt, tt, ff, ff, ff, ff, ff, ff, ff, ff, ff, ff, ff, ff, ff] rfl rfl (by kernel_rfl) (fun _ _ _ h => h) (Or.inl ⟨by rfl, ?_⟩) ?_ ?_; rotate_left; intro w'; go_simp; with_reducible rfl; rotate_left; simp only [pS]; rfl
          refine Q26 (i := 24) (N := some 78) (v := ?_) (a' := ?_) #[tt, tt, tt, tt, tt, tt, tt, tt, tt, tt, tt, tt, tt, tt, tt, tt, tt, tt, tt, ff, tt, tt, tt, tt, tt, ff, ff, ff, ff, ff, ff, ff, ff, ff, ff, ff, ff] rfl rfl (by kernel_rfl) (fun _ _ _ h => h) (Or.inl ⟨by rfl, ?_⟩) ?_ ?_; rotate_left; intro w'; go_simp; with_reducible rfl; rotate_left; simp only [pS]; rfl
          refine take_ (i := 25) (N := some 79) (v := ?_) (a' := ?_) #[tt, tt, tt, tt, tt, tt, tt, tt, tt, tt, tt, tt, tt, tt, tt, tt, tt, tt, tt, ff, tt, tt, tt, tt, tt, tt, ff, ff, ff, ff, ff, ff, ff, ff, ff, ff, ff] rfl rfl (by kernel_rfl) (fun _ _ _ h => h) (Or.inl ⟨by rfl, ?_⟩) hHeld ?_ ?_; rotate_left; rintro w' ⟨s0, s1, s2, s3⟩; go_simp; with_reducible rfl; rotate_left; simp only [pS]; rfl
          refine Q26 (i := 26) (N := some 80) (v := ?_) (a' := ?_) #[tt, tt, tt, tt, tt, tt, tt, tt, tt, tt, tt, tt, tt, tt, tt, tt, tt, tt, tt, ff, tt, tt, tt, tt, tt, tt, tt, ff, ff, ff, ff, ff, ff, ff, ff, ff, ff] rfl rfl (by kernel_rfl) (fun _ _ _ h => h) (Or.inl ⟨by rfl, ?_⟩) ?_ ?_; rotate_left; intro w'; go_simp; with_reducible rfl; rotate_left; simp only [pS]; rfl
          refine Q26 (i := 27) (N := some 81) (v := ?_) (a' := ?_) #[tt, tt, tt, tt, tt, tt, tt, tt, tt, tt, tt, tt, tt, tt, tt, tt, tt, tt, tt, ff, tt, tt, tt, tt, tt, tt, tt, tt, ff, ff, ff, ff, ff, ff, ff, ff, ff] rfl rfl (by kernel_rfl) (fun _ _ _ h => h) (Or.inl ⟨by rfl, ?_⟩) ?_ ?_; rotate_left; intro w'; go_simp; with_reducible rfl; rotate_left; simp only [pS]; rfl
          refine Q26 (i := 28) (N := some 82) (v := ?_) (a' := ?_) #[tt, tt, tt, tt, tt, tt, tt, tt, tt, tt, tt, tt, tt, tt, tt, tt, tt, tt, tt, ff, tt, tt, tt, tt, tt, tt, tt, tt, tt, ff, ff, ff, ff, ff, ff, ff, ff] rfl rfl (by kernel_rfl) (fun _ _ _ h => h) (Or.inl ⟨by rfl, ?_⟩) ?_ ?_; rotate_left; intro w'; go_simp; with_reducible rfl; rotate_left; simp only [pS]; rfl
          refine Q26 (i := 29) (N := some 83) (v := ?_) (a' := ?_) #[tt, tt, tt, tt, tt, tt, tt, tt, tt, tt, tt, tt, tt, tt, tt, tt, tt, tt, tt, ff, tt, tt, tt, tt, tt, tt, tt, tt, tt, tt, ff, ff, ff, ff, ff, ff, ff] rfl rfl (by kernel_rfl) (fun _ _ _ h => h) (Or.inl ⟨by rfl, ?_⟩) ?_ ?_; rotate_left; intro w'; go_simp; with_reducible rfl; rotate_left; simp only [pS]; rfl
          refine Q26 (i := 30) (N := some 84) (v := ?_) (a' := ?_) #[tt, tt, tt, tt, tt, tt, tt, tt, tt, tt, tt, tt, tt, tt, tt, tt, tt, tt, tt, ff, tt, tt, tt, tt, tt, tt, tt, tt, tt, tt, tt, ff, ff, ff, ff, ff, ff] rfl rfl (by kernel_rfl) (fun _ _ _ h => h) (Or.inl ⟨by rfl, ?_⟩) ?_ ?_; rotate_left; intro w'; go_simp; with_reducible rfl; rotate_left; simp only [pS]; rfl
          refine take_ (i := 31) (N := some 85) (v := ?_) (a' := ?_) #[tt, tt, tt, tt, tt, tt, tt, tt, tt, tt, tt, tt, tt, tt, tt, tt, tt, tt, tt, ff, tt, tt, tt, tt, tt, tt, tt, tt, tt, tt, tt, tt, ff, ff, ff, ff, ff] rfl rfl (by kernel_rfl) (fun _ _ _ h => h) (Or.inl ⟨by rfl, ?_⟩) hHeld ?_ ?_; rotate_left; rintro w' ⟨s0, s1, s2, s3⟩; go_simp; with_reducible rfl; rotate_left; simp only [pS]; rfl
          refine Q26 (i := 32) (N := some 86) (v := ?_) (a' := ?_) #[tt, tt, tt, tt, tt, tt, tt, tt, tt, tt, tt, tt, tt, tt, tt, tt, tt, tt, tt, ff, tt, tt, tt, tt, tt, tt, tt, tt, tt, tt, tt, tt, tt, ff, ff, ff, ff] rfl rfl (by kernel_rfl) (fun _ _ _ h => h) (Or.inl ⟨by rfl, ?_⟩) ?_ ?_; rotate_left; intro w'; go_simp; with_reducible rfl; rotate_left; simp only [pS]; rfl
          refine one_ (i := 19) (N := some 73) #[tt, tt, tt, tt, tt, tt, tt, tt, tt, tt, tt, tt, tt, tt, tt, tt, tt, tt, tt, tt, tt, tt, tt, tt, tt, tt, tt, tt, tt, tt, tt, tt, tt, ff, ff, ff, ff] rfl rfl (by kernel_rfl) (by decide) (fun K hK => ?_)
          refine goesV_ Try.func71 (by kernel_rfl) rfl #[.agg #[.int .i64 (a.dep : Int), .int .i64 a.top], .bool (a.top == 4)] (by rfl) rfl rfl rfl (by (try simp only [List.map_toArray, List.map_cons, List.map_nil]); first | done | rfl) ?_
          refine (in_d (a.dep : Int) a.top (a.top == 4) _ HD0.out.1 HD0.out.2).mono ?_
          rintro e w7 ⟨rfl, hb⟩
          have hS := (show (fun w' => w'.cell? ⟨gB, r.length * 2, none⟩ = some (.int .i64 (a.dep : Int)) ∧ w'.cell? ⟨gB, r.length * 2 + 1, none⟩ = some (.int .i64 a.top) ∧ w'.cell? ⟨gB, (r.length + 1) * 2, none⟩ = some (.int .i64 (b.dep : Int)) ∧ w'.cell? ⟨gB, (r.length + 1) * 2 + 1, none⟩ = some (.int .i64 b.top)) w7 from ⟨(hb.cell (p := ⟨gB, _, none⟩) (HLT.out _ HB6.out)).trans hHeld.1, (hb.cell (p := ⟨gB, _, none⟩) (HLT.out _ HB6.out)).trans hHeld.2.1, (hb.cell (p := ⟨gB, _, none⟩) (HLT.out _ HB6.out)).trans hHeld.2.2.1, (hb.cell (p := ⟨gB, _, none⟩) (HLT.out _ HB6.out)).trans hHeld.2.2.2⟩)
          have hx := hb.block _ (Fr.heap_lt' HX6.out) |>.trans HX6.out
          have HX6' := Lib.hid hx
          have HB6' := Lib.hid (HB6.out.trans (hb.mono HB6.out.size))
          clear hb hx HX6 HB6 hHeld
          rename Hid (w7.heap[wo.heap.size + 1]? = _) => HX6
          rename Hid (Below V.heap.size V w7) => HB6
          refine ⟨_, rfl, ?_⟩
          refine hK.out _ _ hS (fun hHeld => ?_)
          clear hK K
          refine norm_ (a' := ?_) ?_ ?_; rotate_left; show Act.put _ (some 73) _ = _; simp only [pS]; rfl
          refine one_ (i := 33) (N := some 87) #[tt, tt, tt, tt, tt, tt, tt, tt, tt, tt, tt, tt, tt, tt, tt, tt, tt, tt, tt, tt, tt, tt, tt, tt, tt, tt, tt, tt, tt, tt, tt, tt, tt, tt, ff, ff, ff] rfl rfl (by kernel_rfl) (by decide) (fun K hK => ?_)
          refine goesV_ Try.func71 (by kernel_rfl) rfl #[.agg #[.int .i64 (b.dep : Int), .int .i64 b.top], .bool (b.top == 4)] (by rfl) rfl rfl rfl (by (try simp only [List.map_toArray, List.map_cons, List.map_nil]); first | done | rfl) ?_
          refine (in_d (b.dep : Int) b.top (b.top == 4) _ HD1.out.1 HD1.out.2).mono ?_
          rintro e w7 ⟨rfl, hb⟩
          have hS := (show (fun w' => w'.cell? ⟨gB, r.length * 2, none⟩ = some (.int .i64 (a.dep : Int)) ∧ w'.cell? ⟨gB, r.length * 2 + 1, none⟩ = some (.int .i64 a.top) ∧ w'.cell? ⟨gB, (r.length + 1) * 2, none⟩ = some (.int .i64 (b.dep : Int)) ∧ w'.cell? ⟨gB, (r.length + 1) * 2 + 1, none⟩ = some (.int .i64 b.top)) w7 from ⟨(hb.cell (p := ⟨gB, _, none⟩) (HLT.out _ HB6.out)).trans hHeld.1, (hb.cell (p := ⟨gB, _, none⟩) (HLT.out _ HB6.out)).trans hHeld.2.1, (hb.cell (p := ⟨gB, _, none⟩) (HLT.out _ HB6.out)).trans hHeld.2.2.1, (hb.cell (p := ⟨gB, _, none⟩) (HLT.out _ HB6.out)).trans hHeld.2.2.2⟩)
          have hx := hb.block _ (Fr.heap_lt' HX6.out) |>.trans HX6.out
          have HX6' := Lib.hid hx
          have HB6' := Lib.hid (HB6.out.trans (hb.mono HB6.out.size))
          clear hb hx HX6 HB6 hHeld
          rename Hid (w7.heap[wo.heap.size + 1]? = _) => HX6
          rename Hid (Below V.heap.size V w7) => HB6
          refine ⟨_, rfl, ?_⟩
          refine hK.out _ _ hS (fun hHeld => ?_)
          clear hK K
          refine norm_ (a' := ?_) ?_ ?_; rotate_left; show Act.put _ (some 87) _ = _; simp only [pS]; rfl
          refine Q26 (i := 34) (N := some 88) (v := ?_) (a' := ?_) #[tt, tt, tt, tt, tt, tt, tt, tt, tt, tt, tt, tt, tt, tt, tt, tt, tt, tt, tt, tt, tt, tt, tt, tt, tt, tt, tt, tt, tt, tt, tt, tt, tt, tt, tt, ff, ff] rfl rfl (by kernel_rfl) (fun _ _ _ h => h) (Or.inl ⟨by rfl, ?_⟩) ?_ ?_; rotate_left; intro w'; go_simp; with_reducible rfl; rotate_left; simp only [pS]; rfl
          refine Q26 (i := 35) (N := some 89) (v := ?_) (a' := ?_) #[tt, tt, tt, tt, tt, tt, tt, tt, tt, tt, tt, tt, tt, tt, tt, tt, tt, tt, tt, tt, tt, tt, tt, tt, tt, tt, tt, tt, tt, tt, tt, tt, tt, tt, tt, tt, ff] rfl rfl (by kernel_rfl) (fun _ _ _ h => h) (Or.inl ⟨by rfl, ?_⟩) ?_ ?_; rotate_left; intro w'; go_simp; with_reducible rfl; rotate_left; simp only [pS]; rfl
          obtain ⟨px, fx⟩ : w7.cell? ⟨wo.heap.size + 1, 0, none⟩ = some (.int .i64 0) ∧ w7.frozen? ⟨wo.heap.size + 1, 0, none⟩ = false := ⟨Q10 HX6.out 0, Q11 HX6.out 0⟩
          refine last_ (i := 36) (N := none) #[tt, tt, tt, tt, tt, tt, tt, tt, tt, tt, tt, tt, tt, tt, tt, tt, tt, tt, tt, tt, tt, tt, tt, tt, tt, tt, tt, tt, tt, tt, tt, tt, tt, tt, tt, tt, tt] rfl rfl (by kernel_rfl) (by decide) (fun K hK => ?_)
          (with_reducible refine skip_ (w1 := ?_) ?hw_ ?hN_ ?_ ?_); (case hw_ => rfl); (case hN_ => rfl)
          rotate_left
          · go_simp
            rfl
          refine hK.out _ _ ?_
          clear hK K
          refine done_ (by kernel_rfl) ?_
          have hdv : (if inD (a.top == 4) (a.dep : Int) < inD (b.top == 4) (b.dep : Int) then inD (b.top == 4) (b.dep : Int) else inD (a.top == 4) (a.dep : Int)) = (((RT.seq a b).dep : Nat) : Int) := (congr (congrArg mx (in_row a (a.top == 4) (by rw [h3]; rfl))) (in_alt b)).trans (mx_nat _ _)
          rw [hdv]
          have HDV := Lib.hid hdv
          clear hdv h3
          clear hwk hwt hw0 hwr
          go_upto_region 17 with (fail)
          have hB5 : Below w.heap.size w (w7.setCell ⟨wo.heap.size + 1, 0, none⟩ (.int .i64 ((RT.seq a b).dep : Int))) := (HB5.out.trans (HB6.out.mono HB5.out.size)).setCell (by have := HH.out.bel.size; dsimp only; omega) _
          have hX5 : (w7.setCell ⟨wo.heap.size + 1, 0, none⟩ (.int .i64 ((RT.seq a b).dep : Int))).heap[wo.heap.size + 1]? = some (.cells #[.int .i64 ((RT.seq a b).dep : Int), .int .i64 3] 142 (0, 0)) := blk_set HX6.out 0 _
          have hO5 : (w7.setCell ⟨wo.heap.size + 1, 0, none⟩ (.int .i64 ((RT.seq a b).dep : Int))).ownsRow w.heap.size 142 2 (.slice (some ⟨gB, 0, none⟩) (b :: a :: r).length cb) (b :: a :: r).length (hrow (b :: a :: r)) := own_setCell (pw_own_below HO5.out HB6.out) (fun e => by have := own_lt HH.out.own _ e.symm; dsimp only at this; omega) _
          clear px fx hHeld
          generalize w7.setCell ⟨wo.heap.size + 1, 0, none⟩ (.int .i64 ((RT.seq a b).dep : Int)) = w5 at hB5 hX5 hO5 ⊢
          have hO6 := own_take hO5 (m := r.length) (by simp only [List.length_cons]; omega)
          rw [hrow_cons, hrow_cons, List.append_assoc, List.take_append_of_le_length (by rw [hrow_len]; omega), List.take_of_length_le (by rw [hrow_len]; omega)] at hO6
          have p0 : w5.cell? ⟨wo.heap.size + 1, 0, none⟩ = some (.int .i64 ((RT.seq a b).dep : Int)) := Q10 hX5 0
          have p1 : w5.cell? ⟨wo.heap.size + 1, 1, none⟩ = some (.int .i64 3) := Q10 hX5 1
          have HX5 := Lib.hid hX5; have HO6 := Lib.hid hO6; have HB5 := Lib.hid hB5
          have HRL := Lib.hid (show r.length ≤ 4096 by omega)
          have HNE := Lib.hid (show some (wo.heap.size + 1) ≠ (Value.slice (some ⟨gB, 0, none⟩) r.length cb).ownBlock from fun e => by have := own_lt (own_take HH.out.own (m := r.length) (by simp only [List.length_cons]; omega)) _ e.symm; omega)
          clear hX5 hO5 hO6 hB5
          go_wp2_with fail
          refine start_ (n := 7) (S := fun w' => w'.cell? ⟨wo.heap.size + 1, 0, none⟩ = some (.int .i64 ((RT.seq a b).dep : Int)) ∧ w'.cell? ⟨wo.heap.size + 1, 1, none⟩ = some (.int .i64 3)) (ds := []) #[ff, ff, ff, ff, ff, ff, ff] (by kernel_rfl) rfl rfl ⟨p0, p1⟩ (fun hHeld => ?_)
          clear p0 p1
          refine Q26 (i := 0) (N := some 112) (v := ?_) (a' := ?_) #[tt, ff, ff, ff, ff, ff, ff] rfl rfl (by kernel_rfl) (fun _ _ _ h => h) (Or.inl ⟨by rfl, ?_⟩) ?_ ?_; rotate_left; intro w'; go_simp; with_reducible rfl; rotate_left; simp only [pS]; rfl
          refine Q26 (i := 1) (N := some 113) (v := ?_) (a' := ?_) #[tt, tt, ff, ff, ff, ff, ff] rfl rfl (by kernel_rfl) (fun _ _ _ h => h) (Or.inl ⟨by rfl, ?_⟩) ?_ ?_; rotate_left; intro w'; go_simp; with_reducible rfl; rotate_left; simp only [pS]; rfl
          refine Q26 (i := 2) (N := some 114) (v := ?_) (a' := ?_) #[tt, tt, tt, ff, ff, ff, ff] rfl rfl (by kernel_rfl) (fun _ _ _ h => h) (Or.inl ⟨by rfl, ?_⟩) ?_ ?_; rotate_left; intro w'; go_simp; with_reducible rfl; rotate_left; simp only [pS]; rfl
          refine take_ (i := 3) (N := some 115) (v := ?_) (a' := ?_) #[tt, tt, tt, tt, ff, ff, ff] rfl rfl (by kernel_rfl) (fun _ _ _ h => h) (Or.inl ⟨by rfl, ?_⟩) hHeld ?_ ?_; rotate_left; rintro w' ⟨s0, s1⟩; go_simp; with_reducible rfl; rotate_left; simp only [pS]; rfl
          refine one_ (i := 4) (N := some 116) #[tt, tt, tt, tt, tt, ff, ff] rfl rfl (by kernel_rfl) (by decide) (fun K hK => ?_)
          refine value_ (w1 := ?_) (v := ?_) (by rfl) rfl ?_ ?_
          rotate_left 2
          · go_simp
            constructor
            · rfl
            · rfl
          refine hK.out _ _ ⟨(Q10 (Q15 (Q17 HX5.out) _) 0).trans rfl, (Q10 (Q15 (Q17 HX5.out) _) 1).trans rfl⟩ (fun hHeld => ?_)
          clear hK K
          refine norm_ (a' := ?_) ?_ ?_; rotate_left; show Act.put _ (some 116) _ = _; simp only [pS]; rfl
          refine one_ (i := 5) (N := some 117) #[tt, tt, tt, tt, tt, tt, ff] rfl rfl (by kernel_rfl) (by decide) (fun K hK => ?_)
          refine step_append_cells (w0 := w) (W := w5.drew) w.heap.size (by rfl) (.tmp 114) (.tmp 116) 140 142 _ 2 16 rfl Try.underlying140 info142' rfl (by decide) (by decide) (.slice (some ⟨gB, 0, none⟩) r.length cb) r.length (hrow r) [.int .i64 ((RT.seq a b).dep : Int), .int .i64 3] rfl rfl rfl (one_hv (RT.seq a b)) (Fr.own_move HO6.out fun _ _ => rfl) (below_drew HB5.out) HB5.out.size (by have := HRL.out; omega) ?_
          intro v1 w6 ho1 hb1 hg1 hat1
          obtain ⟨A5, c5, rfl⟩ := own_slice ho1
          have hx1 := blk_grown (Q17 HX5.out) hg1 HNE.out
          have hS : w6.cell? ⟨wo.heap.size + 1, 0, none⟩ = some (.int .i64 ((RT.seq a b).dep : Int)) ∧ w6.cell? ⟨wo.heap.size + 1, 1, none⟩ = some (.int .i64 3) := ⟨Q10 hx1 0, Q10 hx1 1⟩
          have HO7 := Lib.hid ho1; have HB7 := Lib.hid hb1
          clear ho1 hb1 hg1 hat1 hx1
          refine hK.out _ _ hS (fun hHeld => ?_)
          clear hK K
          refine norm_ (a' := ?_) ?_ ?_; rotate_left; show Act.put _ (some 117) _ = _; simp only [pS]; rfl
          refine Q26 (i := 6) (N := some 3) (v := ?_) (a' := ?_) #[tt, tt, tt, tt, tt, tt, tt] rfl rfl (by kernel_rfl) (fun _ _ _ h => h) (Or.inl ⟨by rfl, ?_⟩) ?_ ?_; rotate_left; intro w'; go_simp; with_reducible rfl; rotate_left; simp only [pS]; rfl
          refine done_ (by kernel_rfl) ?_
          go_wp2
          go_roundw
          case rel => exact ⟨k + 1, (RT.seq a b) :: r, A5, c5, by omega, by go_num, rfl, HRUN.out, by rw [hrow_cons]; exact HO7.out, HB7.out⟩
          case measure => simp [intOf]; omega
      · obtain ⟨o0, ⟨z0, z1, z2, z3⟩⟩ := nn
        dsimp only at hop n0 n1 n2 n3 n4
        subst hop
        subst hx
        subst hs
        have HA := Lib.hid (parts_f 0 4)
        have hln : ((b :: a :: r).length : Int) - 2 = (r.length : Int) := by simp only [List.length_cons]; omega
        have hpos : r.length < (b :: a :: r).length := by simp only [List.length_cons]; omega
        have hle : (r.length : Int) < ((b :: a :: r).length : Int) := by omega
        obtain ⟨gB, hBe, hgl, c0, c1⟩ := cells_half HH.out.own hpos
        subst hBe
        have hrw : hrow (b :: a :: r) = hrow r ++ (hv a ++ hv b) := by rw [hrow_cons, hrow_cons, List.append_assoc]
        rw [hrw, (hrow_at r a _).1] at c0
        rw [hrw, (hrow_at r a _).2] at c1
        obtain ⟨gB2, eB2, _, d0, d1⟩ := cells_half HH.out.own (j := r.length + 1) (by simp only [List.length_cons]; omega)
        obtain rfl : gB = gB2 := by simpa using eB2
        have hrw2 : hrow (b :: a :: r) = hrow (a :: r) ++ (hv b ++ []) := by rw [hrow_cons b, List.append_nil]
        rw [hrw2] at d0 d1
        have q0 := (hrow_at (a :: r) b []).1
        have q1 := (hrow_at (a :: r) b []).2
        rw [List.length_cons] at q0 q1
        rw [q0] at d0
        rw [q1] at d1
        clear eB2 q0 q1 hrw2
        have hcutt := cut_to (some ⟨gB, 0, none⟩) (b :: a :: r).length cb r.length (by omega) hcb
        have hda := HH.out.dep hl (a := a) (by simp)
        have hdb := HH.out.dep hl (a := b) (by simp)
        have hLL : r.length + 2 ≤ (b :: a :: r).length ∧ (b :: a :: r).length ≤ r.length + 2 := by simp only [List.length_cons]; omega
        clear hrw hpos
        generalize (b :: a :: r).length = L at hcutt hcb hst hln hle hLL ⊢
        have hle2 : (r.length : Int) + 1 < (L : Int) := by omega
        go_wp2_with fail
        refine (pattern_parts.calls 1 4 2 _ HA.out).mono ?_
        rintro e w2 ⟨rfl, ⟨nd, rfl⟩⟩
        have hsz0 : ((wo.alloc (.cells #[.int .i64 4, .int .u64 z0, .int .u64 z1, .int .u64 z2, .int .u64 z3] 45)).drewN nd).heap.size = wo.heap.size + 1 := by simp
        go_upto_region 16 with (fail)
        have hB5 : Below w.heap.size w (((wo.alloc (.cells #[.int .i64 4, .int .u64 z0, .int .u64 z1, .int .u64 z2, .int .u64 z3] 45)).drewN nd).alloc (.cells #[.int .i64 0, .int .i64 4] 142)) := (Q7 (HH.out.bel.alloc HH.out.bel.size _) nd).alloc (by rw [hsz0]; have := HH.out.bel.size; omega) _
        have hX5 : (((wo.alloc (.cells #[.int .i64 4, .int .u64 z0, .int .u64 z1, .int .u64 z2, .int .u64 z3] 45)).drewN nd).alloc (.cells #[.int .i64 0, .int .i64 4] 142)).heap[wo.heap.size + 1]? = some (.cells #[.int .i64 0, .int .i64 4] 142 (0, 0)) := by rw [← hsz0]; exact heap_alloc_new _ _
        have hO5 : (((wo.alloc (.cells #[.int .i64 4, .int .u64 z0, .int .u64 z1, .int .u64 z2, .int .u64 z3] 45)).drewN nd).alloc (.cells #[.int .i64 0, .int .i64 4] 142)).ownsRow w.heap.size 142 2 (.slice (some ⟨gB, 0, none⟩) (b :: a :: r).length cb) (b :: a :: r).length (hrow (b :: a :: r)) := (Fr.own_move (HH.out.own.alloc _) fun _ _ => rfl : ((wo.alloc (.cells #[.int .i64 4, .int .u64 z0, .int .u64 z1, .int .u64 z2, .int .u64 z3] 45)).drewN nd).ownsRow w.heap.size 142 2 (.slice (some ⟨gB, 0, none⟩) (b :: a :: r).length cb) (b :: a :: r).length (hrow (b :: a :: r))).alloc _
        have hOK : ∀ j, (((wo.alloc (.cells #[.int .i64 4, .int .u64 z0, .int .u64 z1, .int .u64 z2, .int .u64 z3] 45)).drewN nd).alloc (.cells #[.int .i64 0, .int .i64 4] 142)).cell? ⟨gB, j, none⟩ = wo.cell? ⟨gB, j, none⟩ := fun j => by exact (((Below.refl wo.heap.size wo).alloc (Nat.le_refl _) _ |> fun h => Q7 h nd).alloc (by rw [hsz0]; omega) _).cell (p := ⟨gB, j, none⟩) hgl
        have c0x := (hOK _).trans c0
        have c1x := (hOK _).trans c1
        have d0x := (hOK _).trans d0
        have d1x := (hOK _).trans d1
        clear hsz0 hOK c0 c1 d0 d1
        generalize ((wo.alloc (.cells #[.int .i64 4, .int .u64 z0, .int .u64 z1, .int .u64 z2, .int .u64 z3] 45)).drewN nd).alloc (.cells #[.int .i64 0, .int .i64 4] 142) = V at hB5 hX5 hO5 c0x c1x d0x d1x ⊢
        have HB5 := Lib.hid hB5; have HX5 := Lib.hid hX5; have HO5 := Lib.hid hO5
        clear hB5 hX5 hO5
        have HGV := Lib.hid (own_lt HO5.out gB rfl)
        have HLT : Hid (∀ W : World, Below V.heap.size V W → gB < W.heap.size) := Lib.hid fun W h => Nat.lt_of_lt_of_le HGV.out h.size
        have HD0 := Lib.hid (show (0 : Int) ≤ (a.dep : Int) ∧ (a.dep : Int) ≤ 10000 by omega)
        have HD1 := Lib.hid (show (0 : Int) ≤ (b.dep : Int) ∧ (b.dep : Int) ≤ 10000 by omega)
        have hwk : IntKind.i64.wrap ((r.length : Int) + 1) = (r.length : Int) + 1 := by rw [i64_w, wr (by omega) (by omega)]
        have hwt : ((r.length : Int) + 1).toNat = r.length + 1 := by omega
        have hw0 : (0 : Int) ≤ (r.length : Int) + 1 := by omega
        have hwr : wrap64 ((r.length : Int) + 1) = (r.length : Int) + 1 := wr (by omega) (by omega)
        refine start_ (n := 21) (S := fun w' => w'.cell? ⟨gB, r.length * 2, none⟩ = some (.int .i64 (a.dep : Int)) ∧ w'.cell? ⟨gB, r.length * 2 + 1, none⟩ = some (.int .i64 a.top) ∧ w'.cell? ⟨gB, (r.length + 1) * 2, none⟩ = some (.int .i64 (b.dep : Int)) ∧ w'.cell? ⟨gB, (r.length + 1) * 2 + 1, none⟩ = some (.int .i64 b.top)) (ds := [20]) #[ff, ff, ff, ff, ff, ff, ff, ff, ff, ff, ff, ff, ff, ff, ff, ff, ff, ff, ff, ff, ff] (by kernel_rfl) rfl rfl ⟨c0x, c1x, d0x, d1x⟩ (fun hHeld => ?_)
        have HX6 : Hid (V.drew.heap[wo.heap.size + 1]? = some (.cells #[.int .i64 0, .int .i64 4] 142 (0, 0))) := HX5
        have HB6 : Hid (Below V.heap.size V V.drew) := Lib.hid (Below.refl _ _).drew
        clear c0x c1x d0x d1x
        generalize V.drew = w6 at HX6 HB6 hHeld ⊢
        refine Q26 (i := 0) (N := some 92) (v := ?_) (a' := ?_) #[tt, ff, ff, ff, ff, ff, ff, ff, ff, ff, ff, ff, ff, ff, ff, ff, ff, ff, ff, ff, ff] rfl rfl (by kernel_rfl) (fun _ _ _ h => h) (Or.inl ⟨by rfl, ?_⟩) ?_ ?_; rotate_left; intro w'; go_simp; with_reducible rfl; rotate_left; simp only [pS]; rfl
        refine Q26 (i := 1) (N := some 93) (v := ?_) (a' := ?_) #[tt, tt, ff, ff, ff, ff, ff, ff, ff, ff, ff, ff, ff, ff, ff, ff, ff, ff, ff, ff, ff] rfl rfl (by kernel_rfl) (fun _ _ _ h => h) (Or.inl ⟨by rfl, ?_⟩) ?_ ?_; rotate_left; intro w'; go_simp; with_reducible rfl; rotate_left; simp only [pS]; rfl
        refine Q26 (i := 2) (N := some 94) (v := ?_) (a' := ?_) #[tt, tt, tt, ff, ff, ff, ff, ff, ff, ff, ff, ff, ff, ff, ff, ff, ff, ff, ff, ff, ff] rfl rfl (by kernel_rfl) (fun _ _ _ h => h) (Or.inl ⟨by rfl, ?_⟩) ?_ ?_; rotate_left; intro w'; go_simp; with_reducible rfl; rotate_left; simp only [pS]; rfl
        refine Q26 (i := 3) (N := some 95) (v := ?_) (a' := ?_) #[tt, tt, tt, tt, ff, ff, ff, ff, ff, ff, ff, ff, ff, ff, ff, ff, ff, ff, ff, ff, ff] rfl rfl (by kernel_rfl) (fun _ _ _ h => h) (Or.inl ⟨by rfl, ?_⟩) ?_ ?_; rotate_left; intro w'; go_simp; with_reducible rfl; rotate_left; simp only [pS]; rfl
        refine take_ (i := 4) (N := some 96) (v := ?_) (a' := ?_) #[tt, tt, tt, tt, tt, ff, ff, ff, ff, ff, ff, ff, ff, ff, ff, ff, ff, ff, ff, ff, ff] rfl rfl (by kernel_rfl) (fun _ _ _ h => h) (Or.inl ⟨by rfl, ?_⟩) hHeld ?_ ?_; rotate_left; rintro w' ⟨s0, s1, s2, s3⟩; go_simp; with_reducible rfl; rotate_left; simp only [pS]; rfl
        refine Q26 (i := 5) (N := some 97) (v := ?_) (a' := ?_) #[tt, tt, tt, tt, tt, tt, ff, ff, ff, ff, ff, ff, ff, ff, ff, ff, ff, ff, ff, ff, ff] rfl rfl (by kernel_rfl) (fun _ _ _ h => h) (Or.inl ⟨by rfl, ?_⟩) ?_ ?_; rotate_left; intro w'; go_simp; with_reducible rfl; rotate_left; simp only [pS]; rfl
        refine Q26 (i := 6) (N := some 98) (v := ?_) (a' := ?_) #[tt, tt, tt, tt, tt, tt, tt, ff, ff, ff, ff, ff, ff, ff, ff, ff, ff, ff, ff, ff, ff] rfl rfl (by kernel_rfl) (fun _ _ _ h => h) (Or.inl ⟨by rfl, ?_⟩) ?_ ?_; rotate_left; intro w'; go_simp; with_reducible rfl; rotate_left; simp only [pS]; rfl
        refine Q26 (i := 7) (N := some 99) (v := ?_) (a' := ?_) #[tt, tt, tt, tt, tt, tt, tt, tt, ff, ff, ff, ff, ff, ff, ff, ff, ff, ff, ff, ff, ff] rfl rfl (by kernel_rfl) (fun _ _ _ h => h) (Or.inl ⟨by rfl, ?_⟩) ?_ ?_; rotate_left; intro w'; go_simp; with_reducible rfl; rotate_left; simp only [pS]; rfl
        refine Q26 (i := 8) (N := some 100) (v := ?_) (a' := ?_) #[tt, tt, tt, tt, tt, tt, tt, tt, tt, ff, ff, ff, ff, ff, ff, ff, ff, ff, ff, ff, ff] rfl rfl (by kernel_rfl) (fun _ _ _ h => h) (Or.inl ⟨by rfl, ?_⟩) ?_ ?_; rotate_left; intro w'; go_simp; with_reducible rfl; rotate_left; simp only [pS]; rfl
        refine take_ (i := 9) (N := some 101) (v := ?_) (a' := ?_) #[tt, tt, tt, tt, tt, tt, tt, tt, tt, tt, ff, ff, ff, ff, ff, ff, ff, ff, ff, ff, ff] rfl rfl (by kernel_rfl) (fun _ _ _ h => h) (Or.inl ⟨by rfl, ?_⟩) hHeld ?_ ?_; rotate_left; rintro w' ⟨s0, s1, s2, s3⟩; go_simp; with_reducible rfl; rotate_left; simp only [pS]; rfl
        refine Q26 (i := 10) (N := some 102) (v := ?_) (a' := ?_) #[tt, tt, tt, tt, tt, tt, tt, tt, tt, tt, tt, ff, ff, ff, ff, ff, ff, ff, ff, ff, ff] rfl rfl (by kernel_rfl) (fun _ _ _ h => h) (Or.inl ⟨by rfl, ?_⟩) ?_ ?_; rotate_left; intro w'; go_simp; with_reducible rfl; rotate_left; simp only [pS]; rfl
        refine Q26 (i := 12) (N := some 104) (v := ?_) (a' := ?_) #[tt, tt, tt, tt, tt, tt, tt, tt, tt, tt, tt, ff, tt, ff, ff, ff, ff, ff, ff, ff, ff] rfl rfl (by kernel_rfl) (fun _ _ _ h => h) (Or.inl ⟨by rfl, ?_⟩) ?_ ?_; rotate_left; intro w'; go_simp; with_reducible rfl; rotate_left; simp only [pS]; rfl
        refine Q26 (i := 13) (N := some 105) (v := ?_) (a' := ?_) #[tt, tt, tt, tt, tt, tt, tt, tt, tt, tt, tt, ff, tt, tt, ff, ff, ff, ff, ff, ff, ff] rfl rfl (by kernel_rfl) (fun _ _ _ h => h) (Or.inl ⟨by rfl, ?_⟩) ?_ ?_; rotate_left; intro w'; go_simp; with_reducible rfl; rotate_left; simp only [pS]; rfl
        refine Q26 (i := 14) (N := some 106) (v := ?_) (a' := ?_) #[tt, tt, tt, tt, tt, tt, tt, tt, tt, tt, tt, ff, tt, tt, tt, ff, ff, ff, ff, ff, ff] rfl rfl (by kernel_rfl) (fun _ _ _ h => h) (Or.inl ⟨by rfl, ?_⟩) ?_ ?_; rotate_left; intro w'; go_simp; with_reducible rfl; rotate_left; simp only [pS]; rfl
        refine Q26 (i := 15) (N := some 107) (v := ?_) (a' := ?_) #[tt, tt, tt, tt, tt, tt, tt, tt, tt, tt, tt, ff, tt, tt, tt, tt, ff, ff, ff, ff, ff] rfl rfl (by kernel_rfl) (fun _ _ _ h => h) (Or.inl ⟨by rfl, ?_⟩) ?_ ?_; rotate_left; intro w'; go_simp; with_reducible rfl; rotate_left; simp only [pS]; rfl
        refine Q26 (i := 16) (N := some 108) (v := ?_) (a' := ?_) #[tt, tt, tt, tt, tt, tt, tt, tt, tt, tt, tt, ff, tt, tt, tt, tt, tt, ff, ff, ff, ff] rfl rfl (by kernel_rfl) (fun _ _ _ h => h) (Or.inl ⟨by rfl, ?_⟩) ?_ ?_; rotate_left; intro w'; go_simp; with_reducible rfl; rotate_left; simp only [pS]; rfl
        refine take_ (i := 17) (N := some 109) (v := ?_) (a' := ?_) #[tt, tt, tt, tt, tt, tt, tt, tt, tt, tt, tt, ff, tt, tt, tt, tt, tt, tt, ff, ff, ff] rfl rfl (by kernel_rfl) (fun _ _ _ h => h) (Or.inl ⟨by rfl, ?_⟩) hHeld ?_ ?_; rotate_left; rintro w' ⟨s0, s1, s2, s3⟩; go_simp; with_reducible rfl; rotate_left; simp only [pS]; rfl
        refine one_ (i := 11) (N := some 103) #[tt, tt, tt, tt, tt, tt, tt, tt, tt, tt, tt, tt, tt, tt, tt, tt, tt, tt, ff, ff, ff] rfl rfl (by kernel_rfl) (by decide) (fun K hK => ?_)
        refine goesV_ Try.func71 (by kernel_rfl) rfl #[.agg #[.int .i64 (a.dep : Int), .int .i64 a.top], .bool (a.top == 4)] (by rfl) rfl rfl rfl (by (try simp only [List.map_toArray, List.map_cons, List.map_nil]); first | done | rfl) ?_
        refine (in_d (a.dep : Int) a.top (a.top == 4) _ HD0.out.1 HD0.out.2).mono ?_
        rintro e w7 ⟨rfl, hb⟩
        have hS := (show (fun w' => w'.cell? ⟨gB, r.length * 2, none⟩ = some (.int .i64 (a.dep : Int)) ∧ w'.cell? ⟨gB, r.length * 2 + 1, none⟩ = some (.int .i64 a.top) ∧ w'.cell? ⟨gB, (r.length + 1) * 2, none⟩ = some (.int .i64 (b.dep : Int)) ∧ w'.cell? ⟨gB, (r.length + 1) * 2 + 1, none⟩ = some (.int .i64 b.top)) w7 from ⟨(hb.cell (p := ⟨gB, _, none⟩) (HLT.out _ HB6.out)).trans hHeld.1, (hb.cell (p := ⟨gB, _, none⟩) (HLT.out _ HB6.out)).trans hHeld.2.1, (hb.cell (p := ⟨gB, _, none⟩) (HLT.out _ HB6.out)).trans hHeld.2.2.1, (hb.cell (p := ⟨gB, _, none⟩) (HLT.out _ HB6.out)).trans hHeld.2.2.2⟩)
        have hx := hb.block _ (Fr.heap_lt' HX6.out) |>.trans HX6.out
        have HX6' := Lib.hid hx
        have HB6' := Lib.hid (HB6.out.trans (hb.mono HB6.out.size))
        clear hb hx HX6 HB6 hHeld
        rename Hid (w7.heap[wo.heap.size + 1]? = _) => HX6
        rename Hid (Below V.heap.size V w7) => HB6
        refine ⟨_, rfl, ?_⟩
        refine hK.out _ _ hS (fun hHeld => ?_)
        clear hK K
        refine norm_ (a' := ?_) ?_ ?_; rotate_left; show Act.put _ (some 103) _ = _; simp only [pS]; rfl
        refine Q26 (i := 18) (N := some 110) (v := ?_) (a' := ?_) #[tt, tt, tt, tt, tt, tt, tt, tt, tt, tt, tt, tt, tt, tt, tt, tt, tt, tt, tt, ff, ff] rfl rfl (by kernel_rfl) (fun _ _ _ h => h) (Or.inl ⟨by rfl, ?_⟩) ?_ ?_; rotate_left; intro w'; go_simp; with_reducible rfl; rotate_left; simp only [pS]; rfl
        refine Q26 (i := 19) (N := some 111) (v := ?_) (a' := ?_) #[tt, tt, tt, tt, tt, tt, tt, tt, tt, tt, tt, tt, tt, tt, tt, tt, tt, tt, tt, tt, ff] rfl rfl (by kernel_rfl) (fun _ _ _ h => h) (Or.inl ⟨by rfl, ?_⟩) ?_ ?_; rotate_left; intro w'; go_simp; with_reducible rfl; rotate_left; simp only [pS]; rfl
        obtain ⟨px, fx⟩ : w7.cell? ⟨wo.heap.size + 1, 0, none⟩ = some (.int .i64 0) ∧ w7.frozen? ⟨wo.heap.size + 1, 0, none⟩ = false := ⟨Q10 HX6.out 0, Q11 HX6.out 0⟩
        refine last_ (i := 20) (N := none) #[tt, tt, tt, tt, tt, tt, tt, tt, tt, tt, tt, tt, tt, tt, tt, tt, tt, tt, tt, tt, tt] rfl rfl (by kernel_rfl) (by decide) (fun K hK => ?_)
        (with_reducible refine skip_ (w1 := ?_) ?hw_ ?hN_ ?_ ?_); (case hw_ => rfl); (case hN_ => rfl)
        rotate_left
        · go_simp
          rfl
        refine hK.out _ _ ?_
        clear hK K
        refine done_ (by kernel_rfl) ?_
        have hdv : (if inD (a.top == 4) (a.dep : Int) < (b.dep : Int) then (b.dep : Int) else inD (a.top == 4) (a.dep : Int)) = (((RT.alt a b).dep : Nat) : Int) := (congr (congrArg mx (in_alt a)) rfl).trans (mx_nat _ _)
        rw [hdv]
        have HDV := Lib.hid hdv
        clear hdv
        clear hwk hwt hw0 hwr
        go_upto_region 17 with (fail)
        have hB5 : Below w.heap.size w (w7.setCell ⟨wo.heap.size + 1, 0, none⟩ (.int .i64 ((RT.alt a b).dep : Int))) := (HB5.out.trans (HB6.out.mono HB5.out.size)).setCell (by have := HH.out.bel.size; dsimp only; omega) _
        have hX5 : (w7.setCell ⟨wo.heap.size + 1, 0, none⟩ (.int .i64 ((RT.alt a b).dep : Int))).heap[wo.heap.size + 1]? = some (.cells #[.int .i64 ((RT.alt a b).dep : Int), .int .i64 4] 142 (0, 0)) := blk_set HX6.out 0 _
        have hO5 : (w7.setCell ⟨wo.heap.size + 1, 0, none⟩ (.int .i64 ((RT.alt a b).dep : Int))).ownsRow w.heap.size 142 2 (.slice (some ⟨gB, 0, none⟩) (b :: a :: r).length cb) (b :: a :: r).length (hrow (b :: a :: r)) := own_setCell (pw_own_below HO5.out HB6.out) (fun e => by have := own_lt HH.out.own _ e.symm; dsimp only at this; omega) _
        clear px fx hHeld
        generalize w7.setCell ⟨wo.heap.size + 1, 0, none⟩ (.int .i64 ((RT.alt a b).dep : Int)) = w5 at hB5 hX5 hO5 ⊢
        have hO6 := own_take hO5 (m := r.length) (by simp only [List.length_cons]; omega)
        rw [hrow_cons, hrow_cons, List.append_assoc, List.take_append_of_le_length (by rw [hrow_len]; omega), List.take_of_length_le (by rw [hrow_len]; omega)] at hO6
        have p0 : w5.cell? ⟨wo.heap.size + 1, 0, none⟩ = some (.int .i64 ((RT.alt a b).dep : Int)) := Q10 hX5 0
        have p1 : w5.cell? ⟨wo.heap.size + 1, 1, none⟩ = some (.int .i64 4) := Q10 hX5 1
        have HX5 := Lib.hid hX5; have HO6 := Lib.hid hO6; have HB5 := Lib.hid hB5
        have HRL := Lib.hid (show r.length ≤ 4096 by omega)
        have HNE := Lib.hid (show some (wo.heap.size + 1) ≠ (Value.slice (some ⟨gB, 0, none⟩) r.length cb).ownBlock from fun e => by have := own_lt (own_take HH.out.own (m := r.length) (by simp only [List.length_cons]; omega)) _ e.symm; omega)
        clear hX5 hO5 hO6 hB5
        go_wp2_with fail
        refine start_ (n := 7) (S := fun w' => w'.cell? ⟨wo.heap.size + 1, 0, none⟩ = some (.int .i64 ((RT.alt a b).dep : Int)) ∧ w'.cell? ⟨wo.heap.size + 1, 1, none⟩ = some (.int .i64 4)) (ds := []) #[ff, ff, ff, ff, ff, ff, ff] (by kernel_rfl) rfl rfl ⟨p0, p1⟩ (fun hHeld => ?_)
        clear p0 p1
        refine Q26 (i := 0) (N := some 112) (v := ?_) (a' := ?_) #[tt, ff, ff, ff, ff, ff, ff] rfl rfl (by kernel_rfl) (fun _ _ _ h => h) (Or.inl ⟨by rfl, ?_⟩) ?_ ?_; rotate_left; intro w'; go_simp; with_reducible rfl; rotate_left; simp only [pS]; rfl
        refine Q26 (i := 1) (N := some 113) (v := ?_) (a' := ?_) #[tt, tt, ff, ff, ff, ff, ff] rfl rfl (by kernel_rfl) (fun _ _ _ h => h) (Or.inl ⟨by rfl, ?_⟩) ?_ ?_; rotate_left; intro w'; go_simp; with_reducible rfl; rotate_left; simp only [pS]; rfl
        refine Q26 (i := 2) (N := some 114) (v := ?_) (a' := ?_) #[tt, tt, tt, ff, ff, ff, ff] rfl rfl (by kernel_rfl) (fun _ _ _ h => h) (Or.inl ⟨by rfl, ?_⟩) ?_ ?_; rotate_left; intro w'; go_simp; with_reducible rfl; rotate_left; simp only [pS]; rfl
        refine take_ (i := 3) (N := some 115) (v := ?_) (a' := ?_) #[tt, tt, tt, tt, ff, ff, ff] rfl rfl (by kernel_rfl) (fun _ _ _ h => h) (Or.inl ⟨by rfl, ?_⟩) hHeld ?_ ?_; rotate_left; rintro w' ⟨s0, s1⟩; go_simp; with_reducible rfl; rotate_left; simp only [pS]; rfl
        refine one_ (i := 4) (N := some 116) #[tt, tt, tt, tt, tt, ff, ff] rfl rfl (by kernel_rfl) (by decide) (fun K hK => ?_)
        refine value_ (w1 := ?_) (v := ?_) (by rfl) rfl ?_ ?_
        rotate_left 2
        · go_simp
          constructor
          · rfl
          · rfl
        refine hK.out _ _ ⟨(Q10 (Q15 (Q17 HX5.out) _) 0).trans rfl, (Q10 (Q15 (Q17 HX5.out) _) 1).trans rfl⟩ (fun hHeld => ?_)
        clear hK K
        refine norm_ (a' := ?_) ?_ ?_; rotate_left; show Act.put _ (some 116) _ = _; simp only [pS]; rfl
        refine one_ (i := 5) (N := some 117) #[tt, tt, tt, tt, tt, tt, ff] rfl rfl (by kernel_rfl) (by decide) (fun K hK => ?_)
        refine step_append_cells (w0 := w) (W := w5.drew) w.heap.size (by rfl) (.tmp 114) (.tmp 116) 140 142 _ 2 16 rfl Try.underlying140 info142' rfl (by decide) (by decide) (.slice (some ⟨gB, 0, none⟩) r.length cb) r.length (hrow r) [.int .i64 ((RT.alt a b).dep : Int), .int .i64 4] rfl rfl rfl (one_hv (RT.alt a b)) (Fr.own_move HO6.out fun _ _ => rfl) (below_drew HB5.out) HB5.out.size (by have := HRL.out; omega) ?_
        intro v1 w6 ho1 hb1 hg1 hat1
        obtain ⟨A5, c5, rfl⟩ := own_slice ho1
        have hx1 := blk_grown (Q17 HX5.out) hg1 HNE.out
        have hS : w6.cell? ⟨wo.heap.size + 1, 0, none⟩ = some (.int .i64 ((RT.alt a b).dep : Int)) ∧ w6.cell? ⟨wo.heap.size + 1, 1, none⟩ = some (.int .i64 4) := ⟨Q10 hx1 0, Q10 hx1 1⟩
        have HO7 := Lib.hid ho1; have HB7 := Lib.hid hb1
        clear ho1 hb1 hg1 hat1 hx1
        refine hK.out _ _ hS (fun hHeld => ?_)
        clear hK K
        refine norm_ (a' := ?_) ?_ ?_; rotate_left; show Act.put _ (some 117) _ = _; simp only [pS]; rfl
        refine Q26 (i := 6) (N := some 3) (v := ?_) (a' := ?_) #[tt, tt, tt, tt, tt, tt, tt] rfl rfl (by kernel_rfl) (fun _ _ _ h => h) (Or.inl ⟨by rfl, ?_⟩) ?_ ?_; rotate_left; intro w'; go_simp; with_reducible rfl; rotate_left; simp only [pS]; rfl
        refine done_ (by kernel_rfl) ?_
        go_wp2
        go_roundw
        case rel => exact ⟨k + 1, (RT.alt a b) :: r, A5, c5, by omega, by go_num, rfl, HRUN.out, by rw [hrow_cons]; exact HO7.out, HB7.out⟩
        case measure => simp [intOf]; omega
    · obtain rfl : k = p.length := by omega
      have hrun := HH.out.run
      rw [List.take_length, HT.out] at hrun
      obtain rfl := Option.some.inj hrun
      obtain ⟨gB, hBe, hgl, c0, c1⟩ := cells_half HH.out.own (j := 0) (by simp)
      subst hBe
      have c2 : wo.cell? ⟨gB, 0, none⟩ = some (.int .i64 (t.dep : Int)) := c0.trans rfl
      have hdd : decide ((p.length : Int) < (p.length : Int)) = false := by simp
      clear c0 c1 hst hcb hlt hrun
      go_wp2
      go_ret
      exact ⟨rfl, HH.out.bel⟩
/-- pattern.Check: what it tells. -/
theorem check_c (A : Option Addr) (c : Nat) (p : List S45) (w : World) (hr : Kd.C k45 w A p.length p) (hc : p.length ≤ c) :
    Calls Try.prog 19 #[.slice A p.length c] w fun e w' => e = .returned (.int .i64 (chk p)) ∧ Below w.heap.size w w' := by
  have HR := Lib.hid hr
  clear hr
  by_cases hbig : p.length > 4096
  · have hb : decide ((p.length : Int) > 4096) = true := by simp; omega
    have HC := Lib.hid (show chk p = 1 from by unfold chk; rw [if_pos hbig])
    clear hbig
    go_enter Try.func19, Try.ntmps19
    go_wp2
    go_ret
    exact ⟨by rw [HC.out]; rfl, Below.refl _ _⟩
  · have hb : decide ((p.length : Int) > 4096) = false := by simp; omega
    have HL := Lib.hid (show p.length ≤ 4096 by omega)
    have HE := Lib.hid (show chk p = chk2' (run p []) from by unfold chk; rw [if_neg hbig]; rfl)
    have HSH := Lib.hid (pattern_shaped.calls (p.length + 2) A c p _ w HR.out hc (shaped_f p HL.out (p.length + 2) (by omega)))
    clear hbig
    cases hs : run p [] with
    | none =>
      rw [hs] at HE HSH
      clear hs
      go_enter Try.func19, Try.ntmps19
      go_wp2_with fail
      refine HSH.out.mono ?_
      rintro e w1 ⟨rfl, hb1⟩
      have HB1 := Lib.hid hb1
      clear hb1
      dsimp only [oneT]
      go_wp2
      go_ret
      exact ⟨by rw [HE.out]; rfl, HB1.out⟩
    | some st =>
      rw [hs] at HE HSH
      match st, hs, HE, HSH with
      | [], hs, HE, HSH =>
        clear hs
        go_enter Try.func19, Try.ntmps19
        go_wp2_with fail
        refine HSH.out.mono ?_
        rintro e w1 ⟨rfl, hb1⟩
        have HB1 := Lib.hid hb1
        clear hb1
        dsimp only [oneT]
        go_wp2
        go_ret
        exact ⟨by rw [HE.out]; rfl, HB1.out⟩
      | _ :: _ :: _, hs, HE, HSH =>
        clear hs
        go_enter Try.func19, Try.ntmps19
        go_wp2_with fail
        refine HSH.out.mono ?_
        rintro e w1 ⟨rfl, hb1⟩
        have HB1 := Lib.hid hb1
        clear hb1
        dsimp only [oneT]
        go_wp2
        go_ret
        exact ⟨by rw [HE.out]; rfl, HB1.out⟩
      | [t], hs, HE, HSH =>
        have HD := Lib.hid (fun W (h : Below w.heap.size w W) => depth_c A c p t W (Kd.C_below HR.out h) hc HL.out hs)
        clear hs
        by_cases hd : t.dep > 100
        · have hdd : decide ((t.dep : Int) > 100) = true := by simp; omega
          have HE2 := Lib.hid (show chk p = 3 from by rw [HE.out]; show (if t.dep > 100 then (3 : Int) else 0) = 3; rw [if_pos hd])
          clear hd
          go_enter Try.func19, Try.ntmps19
          go_wp2_with fail
          refine HSH.out.mono ?_
          rintro e w1 ⟨rfl, hb1⟩
          have HB1 := Lib.hid hb1
          clear hb1
          dsimp only [oneT]
          go_wp2_with fail
          refine (HD.out _ HB1.out).mono ?_
          rintro e w2 ⟨rfl, hb2⟩
          have HB2 := Lib.hid (HB1.out.trans (hb2.mono HB1.out.size))
          clear hb2
          go_wp2
          go_ret
          exact ⟨by rw [HE2.out]; rfl, HB2.out⟩
        · have hdd : decide ((t.dep : Int) > 100) = false := by simp; omega
          have HE2 := Lib.hid (show chk p = 0 from by rw [HE.out]; show (if t.dep > 100 then (3 : Int) else 0) = 0; rw [if_neg hd])
          clear hd
          go_enter Try.func19, Try.ntmps19
          go_wp2_with fail
          refine HSH.out.mono ?_
          rintro e w1 ⟨rfl, hb1⟩
          have HB1 := Lib.hid hb1
          clear hb1
          dsimp only [oneT]
          go_wp2_with fail
          refine (HD.out _ HB1.out).mono ?_
          rintro e w2 ⟨rfl, hb2⟩
          have HB2 := Lib.hid (HB1.out.trans (hb2.mono HB1.out.size))
          clear hb2
          go_wp2
          go_ret
          exact ⟨by rw [HE2.out]; rfl, HB2.out⟩
end Go.Proofs.Ytflkgoggnomehaa.Dp

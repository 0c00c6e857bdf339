import Derived.StillTailTactics
import Derived.Test.YtflkgoggnomehaaZ24
import Derived.Test.YtflkgoggnomehaaZ25
import Derived.Test.YtflkgoggnomehaaZ26
import Derived.Test.YtflkgoggnomehaaZ27
set_option linter.unusedVariables false
set_option linter.unusedSimpArgs false
namespace Go.Proofs.Ytflkgoggnomehaa.Pr
open Go.RowKit Go.Proofs.Ytflkgoggnomehaa Go.Proofs.Ytflkgoggnomehaa.P Go.Proofs.Ytflkgoggnomehaa.Pt Go.Proofs.Ytflkgoggnomehaa.Pp Go.Proofs.YtflkgoggnomehaaW.PrintWords Go.Proofs.YtflkgoggnomehaaW.PrintLast Go.Proofs.YtflkgoggnomehaaW.PrintMore
def txB (t : RT) : ByteArray := ⟨t.txt.toArray⟩
theorem txB_size (t : RT) : (txB t).size = t.txt.length := rfl
def hv (t : RT) : List Value := [.string (txB t), .int .i64 t.top]
def hrow (st : List RT) : List Value := st.reverse.flatMap hv
theorem hrow_cons (a : RT) (r : List RT) : hrow (a :: r) = hrow r ++ hv a := by simp [hrow]
theorem hrow_len : ∀ st : List RT, (hrow st).length = st.length * 2
  | [] => rfl
  | a :: r => by rw [hrow_cons, List.length_append, hrow_len r, List.length_cons]; simp [hv]; omega
theorem info105' : (Try.prog.info? 105).map (fun i => (i.zero, i.size, i.bytes)) = some (some (.agg #[.string ⟨#[]⟩, .int .i64 0]), 2, 24) := by kernel_rfl
/-- A text in brackets, or not. -/
def brS (b : Bool) (s : ByteArray) : ByteArray := if b = true then (⟨#[40]⟩ : ByteArray) ++ s ++ (⟨#[41]⟩ : ByteArray) else s
def rowB (o : Int) : Bool := o == 3 || o == 4
theorem bapp_size (a b : ByteArray) : (a ++ b).size = a.size + b.size := by simp
theorem brS_size (b : Bool) (s : ByteArray) : (brS b s).size ≤ s.size + 2 := by
  unfold brS
  split
  · rw [bapp_size, bapp_size]; show 1 + s.size + 1 ≤ _; omega
  · omega
theorem in_any (s : ByteArray) (o : Int) (b : Bool) (W : World) (hs : s.size ≤ 65536) : Calls Try.prog 46 #[.agg #[.string s, .int .i64 o], .bool b] W fun e W' => e = .returned (.string (brS b s)) ∧ Below W.heap.size W W' := by
  refine pattern_half_in.calls s o b (brS b s) W ?_
  unfold pattern_half_in.f brS
  cases b with
  | true => rw [if_pos rfl, if_pos rfl, if_pos (by omega), if_pos (by rw [bapp_size]; show 1 + s.size + 1 ≤ _; omega)]
  | false => rfl
theorem row_any (s : ByteArray) (o : Int) (W : World) : Calls Try.prog 47 #[.agg #[.string s, .int .i64 o]] W fun e W' => e = .returned (.bool (rowB o)) ∧ Below W.heap.size W W' := by
  refine pattern_half_row.calls s o (rowB o) W ?_
  unfold pattern_half_row.f rowB
  by_cases h : o = 3
  · rw [if_pos h, h]; rfl
  · rw [if_neg h, show (o == 3) = false by simpa using h]; rfl
theorem rowB_row (a : RT) : rowB a.top = decide (a.row = 1) := by cases a <;> rfl
theorem altB_alt (a : RT) : (a.top == 4) = decide (a.isAlt = 1) := by cases a <;> rfl
theorem brS_brT (k : Nat) (a : RT) : brS (decide (k = 1)) (txB a) = ⟨(brT k a.txt).toArray⟩ := by
  unfold brS brT
  by_cases h : k = 1
  · rw [if_pos (by simpa using h), if_pos h]
    apply ByteArray.ext
    simp [txB]
  · rw [if_neg (by simpa using h), if_neg h]; rfl
theorem star_txt (a : RT) : brS (rowB a.top) (txB a) ++ (⟨#[42]⟩ : ByteArray) = txB (.star a) := by
  rw [rowB_row, brS_brT]; apply ByteArray.ext; simp [txB, RT.txt]
theorem seq_txt (a b : RT) : brS (rowB a.top) (txB a) ++ brS (b.top == 4) (txB b) = txB (.seq a b) := by
  rw [rowB_row, altB_alt, brS_brT, brS_brT]; apply ByteArray.ext; simp [txB, RT.txt]
theorem alt_txt (a b : RT) : brS (a.top == 4) (txB a) ++ (⟨#[124]⟩ : ByteArray) ++ txB b = txB (.alt a b) := by
  rw [altB_alt, brS_brT]; apply ByteArray.ext; simp [txB, RT.txt]
/-- The stack's row. -/
structure HI (w : World) (p : List S45) (i : Nat) (st : List RT) (A : Option Addr) (c : Nat) (W : World) : Prop where
  run : run (p.take i) [] = some st
  txt : ∀ a ∈ st, a.txt.length ≤ 65536
  own : W.ownsRow w.heap.size 105 2 (.slice A st.length c) st.length (hrow st)
  bel : Below w.heap.size w W
theorem HI.len {w : World} {p : List S45} {i : Nat} {st : List RT} {A : Option Addr} {c : Nat} {W : World} (h : HI w p i st A c W) (hi : i ≤ p.length) : st.length ≤ i := by
  have h1 := Dp.encs_le st
  rw [run_encs _ _ _ h.run, show encs_ [] = [] from rfl, List.nil_append, List.length_take] at h1
  omega
theorem cells_half {W : World} {B c n : Nat} {A : Option Addr} {xs : List Value} (h : W.ownsRow B 105 2 (.slice A n c) n xs) {j : Nat} (hj : j < n) : ∃ g, A = some ⟨g, 0, none⟩ ∧ g < W.heap.size ∧ W.cell? ⟨g, j * 2, none⟩ = xs[j * 2]? ∧ W.cell? ⟨g, j * 2 + 1, none⟩ = xs[j * 2 + 1]? := by
  obtain ⟨g, c', e, _⟩ := (Fr.told_own h).cons (by omega)
  cases e
  exact ⟨g, rfl, own_lt h g rfl, World.ownsRow.cellAt h _ (by omega), World.ownsRow.cellAt h _ (by omega)⟩
theorem hrow_at (r : List RT) (a : RT) (l : List Value) : (hrow r ++ (hv a ++ l))[r.length * 2]? = some (.string (txB a)) ∧ (hrow r ++ (hv a ++ l))[r.length * 2 + 1]? = some (.int .i64 a.top) := by
  have h := hrow_len r
  constructor
  · rw [List.getElem?_append_right (by omega), h, Nat.sub_self]; rfl
  · rw [List.getElem?_append_right (by omega), h, Nat.add_sub_cancel_left]; rfl
theorem info_size : (Try.prog.info? 105).map (·.size) = some 2 := by kernel_rfl
/-- heap[k:] -/
theorem cut_from (A : Option Addr) (n c m : Nat) (hm : m ≤ n) : ∃ A' : Option Addr, (∀ W : World, (Instr.slice 102 (.slice A n c) (some (.int .i64 (m : Int))) none none).run Try.prog W = .ok (.slice A' (n - m) (c - m)) W) ∧ (∀ g, A = some ⟨g, 0, none⟩ → m < c → A' = some ⟨g, m * 2, none⟩) := by
  obtain ⟨i, hi, hsz⟩ := Option.map_eq_some_iff.1 info_size
  refine ⟨if c = m then A else A.map (·.add (m * 2)), fun W => ?_, fun g hg hc => ?_⟩
  · have hel : Try.prog.elem 102 = 105 := by simp [Program.elem, Try.underlying102]
    have hu : Try.prog.underlying 102 = some (.slice (Try.prog.elem 102)) := by rw [hel]; exact Try.underlying102
    rw [run_slice_l W 102 A n c hu .i64 (m : Int) (Int.natCast_nonneg _) (by omega), hel]
    simp [sizeOf, typeInfo, hi, hsz, sliced, Result.andThen]
  · rw [if_neg (by omega), hg]
    simp [Addr.add]
    omega
/-- heap[:k] -/
theorem cut_to (A : Option Addr) (n c m : Nat) (hm : m ≤ n) (hc : n ≤ c) : ∀ W : World, (Instr.slice 102 (.slice A n c) none (some (.int .i64 (m : Int))) none).run Try.prog W = .ok (.slice A m c) W := by
  obtain ⟨i, hi, hsz⟩ := Option.map_eq_some_iff.1 info_size
  have := cut_cap (P := Try.prog) 102 105 .i64 Try.underlying102 hi A n c (m : Int) (Int.natCast_nonneg _) (by omega) hc
  rw [Int.toNat_natCast] at this
  exact this
theorem one_hv (t : RT) : ∀ u ∈ hv t, u.oneCell' = true := by
  intro u hu
  unfold hv at hu
  simp only [List.mem_cons, List.not_mem_nil, or_false] at hu
  rcases hu with rfl | rfl <;> rfl
theorem clsText_c {z0 z1 z2 z3 : Int} (h : okC ⟨z0, z1, z2, z3⟩) (W : World) : Calls Try.prog 45 #[.agg #[.int .u64 z0, .int .u64 z1, .int .u64 z2, .int .u64 z3]] W fun e W' => e = .returned (.string (clsT ⟨z0, z1, z2, z3⟩)) ∧ Below W.heap.size W W' := by
  unfold okC at h
  rw [cI_V h]
  exact Ct.classText_c _ (cI_ok h) W
set_option maxRecDepth 100000 in
set_option maxHeartbeats 8000000 in
theorem print_good (A : Option Addr) (c : Nat) (p : List S45) (w : World) (hr : Kd.C k45 w A p.length p) (hc : p.length ≤ c) (hok : ∀ n ∈ p, okC n.f1) (h0 : chk p = 0) :
    Calls Try.prog 17 #[.slice A p.length c] w fun e w' => e = .returned (.tuple #[.string (prt p).1, .int .i64 (prt p).2]) ∧ Below w.heap.size w w' := by
  have HR := Lib.hid hr
  have HCK := Lib.hid (Dp.check_c A c p w hr hc)
  clear hr
  obtain ⟨hl, t, ht, hd⟩ := chk_zero h0
  have HT := Lib.hid ht
  have H0 := Lib.hid h0
  rw [h0] at HCK
  clear hd ht h0
  go_enter Try.func17, Try.ntmps17
  go_wp2_with fail
  refine (HCK.out).mono ?_
  rintro e w1 ⟨rfl, hb1⟩
  have HB1 := Lib.hid hb1
  clear hb1
  go_wp2_with fail
  go_loopw [5, 18] (fun v i wr => ∃ (k : Nat) (st : List RT) (B : Option Addr) (cb : Nat), k ≤ p.length ∧ i = .int .i64 (k : Int) ∧ v = .slice B st.length cb ∧ HI w p k st B cb wr) (fun _ i _ => p.length - (intOf i).toNat)
  case atStart => exact ⟨0, [], none, 0, by omega, rfl, rfl, ⟨rfl, (fun a ha => by cases ha), own_nil _ _ _ _, HB1.out⟩⟩
  case round =>
    obtain ⟨k, st, B, cb, hk, rfl, rfl, hI⟩ := hrel
    obtain ⟨wo, rfl⟩ : ∃ wo : World, wo = wr := ⟨_, rfl⟩
    have hst := hI.len hk
    have hcb := own_le hI.own
    have HH := Lib.hid hI
    clear hI
    by_cases hlt : k < p.length
    · obtain ⟨x, r, hbare, hstp, hrun⟩ := next_stack HT.out hlt HH.out.run
      obtain ⟨ad, rfl, n0, n1, n2, n3, n4⟩ := at_T45 (Kd.C_below HR.out HH.out.bel) (k : Int) (by omega) (by omega)
      rw [Int.toNat_natCast] at n0 n1 n2 n3 n4
      have hz : (0 : Int) ≤ (k : Int) ∧ (k : Int) < (p.length : Int) := by omega
      have hnod : Q13 p (k : Int) = nod p k := rfl
      have HOK := Lib.hid (hok _ (nod_mem hlt))
      rw [hnod] at n0 n1 n2 n3 n4
      clear hnod
      have HBX := Lib.hid (heap_alloc_new wo (.cells #[.int .i64 (nod p k).f0, .int .u64 (nod p k).f1.f0, .int .u64 (nod p k).f1.f1, .int .u64 (nod p k).f1.f2, .int .u64 (nod p k).f1.f3] 45))
      have hways := stp_ways hstp
      generalize hnd : nod p k = nn at hways n0 n1 n2 n3 n4 HBX HOK hbare
      have HRUN := Lib.hid hrun
      have HPL : Hid (∀ a : RT, x = a → a.txt.length > 65536 → prt p = (⟨#[]⟩, 2)) := Lib.hid (fun a e ha => prt_long H0.out (List.take_append_drop (k + 1) p).symm hrun (by rw [e]; exact ha))
      clear hstp hrun hnd hbare
      rcases hways with ⟨hop, hx, hr⟩ | ⟨hop, hx, hr⟩ | ⟨hop, hx, hr⟩ | ⟨hop, a, hs, hx⟩ | ⟨hop, a, b, hs, hx⟩ | ⟨hop, a, b, hs, hx⟩
      · obtain ⟨o0, ⟨z0, z1, z2, z3⟩⟩ := nn
        dsimp only at hop n0 n1 n2 n3 n4 HBX
        subst hop
        subst hx
        subst hr
        have hkk : ((r.length : Int) - 0) = (r.length : Int) := by omega
        have hkm : r.length ≤ r.length := Nat.le_refl _
        have HA := Lib.hid (parts_f 0 0)
        obtain ⟨A1, hcutf, _⟩ := cut_from B r.length cb r.length (Nat.le_refl _)
        have hcutt := cut_to B r.length cb r.length (Nat.le_refl _) hcb
        have hsub : r.length - r.length = 0 := by omega
        rw [hsub] at hcutf
        clear hsub hkk hkm
        have hsz : wo.heap.size + 1 < (wo.alloc (.cells #[.int .i64 0, .int .u64 z0, .int .u64 z1, .int .u64 z2, .int .u64 z3] 45)).heap.size + 1 := by simp
        go_wp2_with fail
        refine (pattern_parts.calls 1 0 0 _ HA.out).mono ?_
        rintro e w2 ⟨rfl, ⟨nd, rfl⟩⟩
        go_upto_region 24 with (fail)
        have hsz0 : ((wo.alloc (.cells #[.int .i64 0, .int .u64 z0, .int .u64 z1, .int .u64 z2, .int .u64 z3] 45)).drewN nd).heap.size = wo.heap.size + 1 := by simp
        have hB5 : Below w.heap.size w (((wo.alloc (.cells #[.int .i64 0, .int .u64 z0, .int .u64 z1, .int .u64 z2, .int .u64 z3] 45)).drewN nd).alloc (.cells #[.string ⟨#[126]⟩, .int .i64 0] 105)) := (Q7 (HH.out.bel.alloc HH.out.bel.size _) nd).alloc (by rw [hsz0]; have := HH.out.bel.size; omega) _
        have hX5 : (((wo.alloc (.cells #[.int .i64 0, .int .u64 z0, .int .u64 z1, .int .u64 z2, .int .u64 z3] 45)).drewN nd).alloc (.cells #[.string ⟨#[126]⟩, .int .i64 0] 105)).heap[wo.heap.size + 1]? = some (.cells #[.string (txB RT.none), .int .i64 0] 105 (0, 0)) := by rw [← hsz0]; exact heap_alloc_new _ _
        have hO5 : (((wo.alloc (.cells #[.int .i64 0, .int .u64 z0, .int .u64 z1, .int .u64 z2, .int .u64 z3] 45)).drewN nd).alloc (.cells #[.string ⟨#[126]⟩, .int .i64 0] 105)).ownsRow w.heap.size 105 2 (.slice B r.length cb) r.length (hrow r) := (Fr.own_move (HH.out.own.alloc _) fun _ _ => rfl : ((wo.alloc (.cells #[.int .i64 0, .int .u64 z0, .int .u64 z1, .int .u64 z2, .int .u64 z3] 45)).drewN nd).ownsRow w.heap.size 105 2 (.slice B r.length cb) r.length (hrow r)).alloc _
        clear hsz0
        generalize ((wo.alloc (.cells #[.int .i64 0, .int .u64 z0, .int .u64 z1, .int .u64 z2, .int .u64 z3] 45)).drewN nd).alloc (.cells #[.string ⟨#[126]⟩, .int .i64 0] 105) = w5 at hB5 hX5 hO5 ⊢
        have hO6 := own_take hO5 (m := r.length) (by omega)
        rw [List.take_of_length_le (by rw [hrow_len]; omega)] at hO6
        have p0 : w5.cell? ⟨wo.heap.size + 1, 0, none⟩ = some (.string (txB RT.none)) := Q10 hX5 0
        have p1 : w5.cell? ⟨wo.heap.size + 1, 1, none⟩ = some (.int .i64 0) := Q10 hX5 1
        have HX5 := Lib.hid hX5; have HO6 := Lib.hid hO6; have HB5 := Lib.hid hB5
        have HRL := Lib.hid (show r.length ≤ 4096 by omega)
        have HNE := Lib.hid (show some (wo.heap.size + 1) ≠ (Value.slice B r.length cb).ownBlock from fun e => by have := own_lt (own_take HH.out.own (m := r.length) (by omega)) _ e.symm; omega)
        clear hX5 hO5 hO6 hB5
        by_cases hbig : RT.none.txt.length > 65536
        · have hbd : decide (((txB RT.none).size : Int) > 65536) = true := by rw [txB_size]; simp; omega
          have HP5 := Lib.hid (HPL.out RT.none rfl hbig)
          clear hbig
          go_wp2
          go_ret2
          exact ⟨by rw [HP5.out]; rfl, HB5.out⟩
        · have hbd : decide (((txB RT.none).size : Int) > 65536) = false := by rw [txB_size]; simp; omega
          have HS5 := Lib.hid hbig
          clear hbig
          obtain ⟨i0, hi, hz0, hz1, hz2⟩ := info_parts info105'
          have HI0 := Lib.hid hi; have HZ0 := Lib.hid hz0; have HZ1 := Lib.hid hz1; have HZ2 := Lib.hid hz2
          clear hi hz0 hz1 hz2
          go_wp2_with fail
          go_region_held3 (fun w' => (w'.cell? ⟨wo.heap.size + 1, 0, none⟩ = some (.string (txB RT.none)) ∧ w'.cell? ⟨wo.heap.size + 1, 1, none⟩ = some (.int .i64 0)))
            (first | go_keep | skip)
            (first | (rw [show (w5.alloc (.cells #[.string (txB RT.none), .int .i64 0] 105)).drew = w5.drew.alloc (.cells #[.string (txB RT.none), .int .i64 0] 105) from rfl]; refine step_append_cells (w0 := w) (W := w5.drew) w.heap.size (by rfl) _ _ 102 105 _ 2 24 rfl Try.underlying102 info105' rfl (by decide) (by decide) (.slice B r.length cb) r.length (hrow r) [.string (txB RT.none), .int .i64 0] rfl rfl rfl (one_hv RT.none) (Fr.own_move HO6.out fun _ _ => rfl) (below_drew HB5.out) HB5.out.size (by have := HRL.out; omega) ?_; intro v1 w6 ho1 hb1 hg1 hat1; obtain ⟨A5, c5, rfl⟩ := own_slice ho1; have hx1 := blk_grown (Q17 HX5.out) hg1 HNE.out; obtain ⟨y0, y1⟩ : w6.cell? ⟨wo.heap.size + 1, 0, none⟩ = some (.string (txB RT.none)) ∧ w6.cell? ⟨wo.heap.size + 1, 1, none⟩ = some (.int .i64 0) := ⟨Q10 hx1 0, Q10 hx1 1⟩; have HO7 := Lib.hid ho1; have HB7 := Lib.hid hb1; clear ho1 hb1 hg1 hat1 hx1))
          go_wp2
          go_roundw
          case rel => exact ⟨k + 1, RT.none :: r, A5, c5, by omega, by go_num, rfl, HRUN.out, (fun a ha => (List.mem_cons.1 ha).elim (fun e => by rw [e]; exact Nat.le_of_not_gt HS5.out) (fun h => HH.out.txt a h)), by rw [hrow_cons]; exact HO7.out, HB7.out⟩
          case measure => simp [intOf]; omega
      · obtain ⟨o0, ⟨z0, z1, z2, z3⟩⟩ := nn
        dsimp only at hop n0 n1 n2 n3 n4 HBX
        subst hop
        subst hx
        subst hr
        have hkk : ((r.length : Int) - 0) = (r.length : Int) := by omega
        have hkm : r.length ≤ r.length := Nat.le_refl _
        have HA := Lib.hid (parts_f 0 1)
        obtain ⟨A1, hcutf, _⟩ := cut_from B r.length cb r.length (Nat.le_refl _)
        have hcutt := cut_to B r.length cb r.length (Nat.le_refl _) hcb
        have hsub : r.length - r.length = 0 := by omega
        rw [hsub] at hcutf
        clear hsub hkk hkm
        have hsz : wo.heap.size + 1 < (wo.alloc (.cells #[.int .i64 1, .int .u64 z0, .int .u64 z1, .int .u64 z2, .int .u64 z3] 45)).heap.size + 1 := by simp
        go_wp2_with fail
        refine (pattern_parts.calls 1 1 0 _ HA.out).mono ?_
        rintro e w2 ⟨rfl, ⟨nd, rfl⟩⟩
        go_upto_region 24 with (fail)
        have hsz0 : ((wo.alloc (.cells #[.int .i64 1, .int .u64 z0, .int .u64 z1, .int .u64 z2, .int .u64 z3] 45)).drewN nd).heap.size = wo.heap.size + 1 := by simp
        have hB5 : Below w.heap.size w (((wo.alloc (.cells #[.int .i64 1, .int .u64 z0, .int .u64 z1, .int .u64 z2, .int .u64 z3] 45)).drewN nd).alloc (.cells #[.string ⟨#[40, 41]⟩, .int .i64 1] 105)) := (Q7 (HH.out.bel.alloc HH.out.bel.size _) nd).alloc (by rw [hsz0]; have := HH.out.bel.size; omega) _
        have hX5 : (((wo.alloc (.cells #[.int .i64 1, .int .u64 z0, .int .u64 z1, .int .u64 z2, .int .u64 z3] 45)).drewN nd).alloc (.cells #[.string ⟨#[40, 41]⟩, .int .i64 1] 105)).heap[wo.heap.size + 1]? = some (.cells #[.string (txB RT.empty), .int .i64 1] 105 (0, 0)) := by rw [← hsz0]; exact heap_alloc_new _ _
        have hO5 : (((wo.alloc (.cells #[.int .i64 1, .int .u64 z0, .int .u64 z1, .int .u64 z2, .int .u64 z3] 45)).drewN nd).alloc (.cells #[.string ⟨#[40, 41]⟩, .int .i64 1] 105)).ownsRow w.heap.size 105 2 (.slice B r.length cb) r.length (hrow r) := (Fr.own_move (HH.out.own.alloc _) fun _ _ => rfl : ((wo.alloc (.cells #[.int .i64 1, .int .u64 z0, .int .u64 z1, .int .u64 z2, .int .u64 z3] 45)).drewN nd).ownsRow w.heap.size 105 2 (.slice B r.length cb) r.length (hrow r)).alloc _
        clear hsz0
        generalize ((wo.alloc (.cells #[.int .i64 1, .int .u64 z0, .int .u64 z1, .int .u64 z2, .int .u64 z3] 45)).drewN nd).alloc (.cells #[.string ⟨#[40, 41]⟩, .int .i64 1] 105) = w5 at hB5 hX5 hO5 ⊢
        have hO6 := own_take hO5 (m := r.length) (by omega)
        rw [List.take_of_length_le (by rw [hrow_len]; omega)] at hO6
        have p0 : w5.cell? ⟨wo.heap.size + 1, 0, none⟩ = some (.string (txB RT.empty)) := Q10 hX5 0
        have p1 : w5.cell? ⟨wo.heap.size + 1, 1, none⟩ = some (.int .i64 1) := Q10 hX5 1
        have HX5 := Lib.hid hX5; have HO6 := Lib.hid hO6; have HB5 := Lib.hid hB5
        have HRL := Lib.hid (show r.length ≤ 4096 by omega)
        have HNE := Lib.hid (show some (wo.heap.size + 1) ≠ (Value.slice B r.length cb).ownBlock from fun e => by have := own_lt (own_take HH.out.own (m := r.length) (by omega)) _ e.symm; omega)
        clear hX5 hO5 hO6 hB5
        by_cases hbig : RT.empty.txt.length > 65536
        · have hbd : decide (((txB RT.empty).size : Int) > 65536) = true := by rw [txB_size]; simp; omega
          have HP5 := Lib.hid (HPL.out RT.empty rfl hbig)
          clear hbig
          go_wp2
          go_ret2
          exact ⟨by rw [HP5.out]; rfl, HB5.out⟩
        · have hbd : decide (((txB RT.empty).size : Int) > 65536) = false := by rw [txB_size]; simp; omega
          have HS5 := Lib.hid hbig
          clear hbig
          obtain ⟨i0, hi, hz0, hz1, hz2⟩ := info_parts info105'
          have HI0 := Lib.hid hi; have HZ0 := Lib.hid hz0; have HZ1 := Lib.hid hz1; have HZ2 := Lib.hid hz2
          clear hi hz0 hz1 hz2
          go_wp2_with fail
          go_region_held3 (fun w' => (w'.cell? ⟨wo.heap.size + 1, 0, none⟩ = some (.string (txB RT.empty)) ∧ w'.cell? ⟨wo.heap.size + 1, 1, none⟩ = some (.int .i64 1)))
            (first | go_keep | skip)
            (first | (rw [show (w5.alloc (.cells #[.string (txB RT.empty), .int .i64 1] 105)).drew = w5.drew.alloc (.cells #[.string (txB RT.empty), .int .i64 1] 105) from rfl]; refine step_append_cells (w0 := w) (W := w5.drew) w.heap.size (by rfl) _ _ 102 105 _ 2 24 rfl Try.underlying102 info105' rfl (by decide) (by decide) (.slice B r.length cb) r.length (hrow r) [.string (txB RT.empty), .int .i64 1] rfl rfl rfl (one_hv RT.empty) (Fr.own_move HO6.out fun _ _ => rfl) (below_drew HB5.out) HB5.out.size (by have := HRL.out; omega) ?_; intro v1 w6 ho1 hb1 hg1 hat1; obtain ⟨A5, c5, rfl⟩ := own_slice ho1; have hx1 := blk_grown (Q17 HX5.out) hg1 HNE.out; obtain ⟨y0, y1⟩ : w6.cell? ⟨wo.heap.size + 1, 0, none⟩ = some (.string (txB RT.empty)) ∧ w6.cell? ⟨wo.heap.size + 1, 1, none⟩ = some (.int .i64 1) := ⟨Q10 hx1 0, Q10 hx1 1⟩; have HO7 := Lib.hid ho1; have HB7 := Lib.hid hb1; clear ho1 hb1 hg1 hat1 hx1))
          go_wp2
          go_roundw
          case rel => exact ⟨k + 1, RT.empty :: r, A5, c5, by omega, by go_num, rfl, HRUN.out, (fun a ha => (List.mem_cons.1 ha).elim (fun e => by rw [e]; exact Nat.le_of_not_gt HS5.out) (fun h => HH.out.txt a h)), by rw [hrow_cons]; exact HO7.out, HB7.out⟩
          case measure => simp [intOf]; omega
      · obtain ⟨o0, ⟨z0, z1, z2, z3⟩⟩ := nn
        dsimp only at hop hx n0 n1 n2 n3 n4 HBX HOK
        subst hop
        subst hx
        subst hr
        have hkk : ((r.length : Int) - 0) = (r.length : Int) := by omega
        have hkm : r.length ≤ r.length := Nat.le_refl _
        have HA := Lib.hid (parts_f 0 2)
        obtain ⟨A1, hcutf, _⟩ := cut_from B r.length cb r.length (Nat.le_refl _)
        have hcutt := cut_to B r.length cb r.length (Nat.le_refl _) hcb
        have hsub : r.length - r.length = 0 := by omega
        rw [hsub] at hcutf
        clear hsub hkk hkm
        have hsz : wo.heap.size + 1 < (wo.alloc (.cells #[.int .i64 2, .int .u64 z0, .int .u64 z1, .int .u64 z2, .int .u64 z3] 45)).heap.size + 1 := by simp
        go_wp2_with fail
        refine (pattern_parts.calls 1 2 0 _ HA.out).mono ?_
        rintro e w2 ⟨rfl, ⟨nd, rfl⟩⟩
        go_wp2_with fail
        refine (clsText_c HOK.out _).mono ?_
        rintro e w6 ⟨rfl, hb6⟩
        have hsz0 : ((wo.alloc (.cells #[.int .i64 2, .int .u64 z0, .int .u64 z1, .int .u64 z2, .int .u64 z3] 45)).drewN nd).heap.size = wo.heap.size + 1 := by simp
        have hX6 : w6.heap[wo.heap.size + 1]? = some (.cells #[.string ⟨#[]⟩, .int .i64 2] 105 (0, 0)) := by rw [← hsz0]; exact (hb6.block _ (by simp)).trans (heap_alloc_new _ _)
        have hB6 : Below w.heap.size w w6 := ((Q7 (HH.out.bel.alloc HH.out.bel.size _) nd).alloc (by rw [hsz0]; have := HH.out.bel.size; omega) _).trans (hb6.mono (by simp; have := HH.out.bel.size; omega))
        have hO6 : w6.ownsRow w.heap.size 105 2 (.slice B r.length cb) r.length (hrow r) := pw_own_below ((Fr.own_move (HH.out.own.alloc _) fun _ _ => rfl : ((wo.alloc (.cells #[.int .i64 2, .int .u64 z0, .int .u64 z1, .int .u64 z2, .int .u64 z3] 45)).drewN nd).ownsRow w.heap.size 105 2 (.slice B r.length cb) r.length (hrow r)).alloc _) hb6
        obtain ⟨p0, f0⟩ : w6.cell? ⟨wo.heap.size + 1, 0, none⟩ = some (.string ⟨#[]⟩) ∧ w6.frozen? ⟨wo.heap.size + 1, 0, none⟩ = false := ⟨Q10 hX6 0, Q11 hX6 0⟩
        clear hb6 hsz0
        have HB6 := Lib.hid hB6; have HO6 := Lib.hid hO6; have HX6 := Lib.hid hX6
        clear hB6 hO6 hX6
        go_upto_region 24 with (fail)
        have hB5 : Below w.heap.size w (w6.setCell ⟨wo.heap.size + 1, 0, none⟩ (.string (clsT ⟨z0, z1, z2, z3⟩))) := HB6.out.setCell (by have := HH.out.bel.size; dsimp only; omega) _
        have hX5 : (w6.setCell ⟨wo.heap.size + 1, 0, none⟩ (.string (clsT ⟨z0, z1, z2, z3⟩))).heap[wo.heap.size + 1]? = some (.cells #[.string (txB (RT.cls ⟨z0, z1, z2, z3⟩)), .int .i64 2] 105 (0, 0)) := blk_set HX6.out 0 _
        have hO5 : (w6.setCell ⟨wo.heap.size + 1, 0, none⟩ (.string (clsT ⟨z0, z1, z2, z3⟩))).ownsRow w.heap.size 105 2 (.slice B r.length cb) r.length (hrow r) := own_setCell HO6.out (fun e => by have := own_lt HH.out.own _ e.symm; dsimp only at this; omega) _
        generalize w6.setCell ⟨wo.heap.size + 1, 0, none⟩ (.string (clsT ⟨z0, z1, z2, z3⟩)) = w5 at hB5 hX5 hO5 ⊢
        have hO6 := own_take hO5 (m := r.length) (by omega)
        rw [List.take_of_length_le (by rw [hrow_len]; omega)] at hO6
        have p0 : w5.cell? ⟨wo.heap.size + 1, 0, none⟩ = some (.string (txB (RT.cls ⟨z0, z1, z2, z3⟩))) := Q10 hX5 0
        have p1 : w5.cell? ⟨wo.heap.size + 1, 1, none⟩ = some (.int .i64 2) := Q10 hX5 1
        have HX5 := Lib.hid hX5; have HO6 := Lib.hid hO6; have HB5 := Lib.hid hB5
        have HRL := Lib.hid (show r.length ≤ 4096 by omega)
        have HNE := Lib.hid (show some (wo.heap.size + 1) ≠ (Value.slice B r.length cb).ownBlock from fun e => by have := own_lt (own_take HH.out.own (m := r.length) (by omega)) _ e.symm; omega)
        clear hX5 hO5 hO6 hB5
        by_cases hbig : (RT.cls ⟨z0, z1, z2, z3⟩).txt.length > 65536
        · have hbd : decide (((txB (RT.cls ⟨z0, z1, z2, z3⟩)).size : Int) > 65536) = true := by rw [txB_size]; simp; omega
          have HP5 := Lib.hid (HPL.out (RT.cls ⟨z0, z1, z2, z3⟩) rfl hbig)
          clear hbig
          go_wp2
          go_ret2
          exact ⟨by rw [HP5.out]; rfl, HB5.out⟩
        · have hbd : decide (((txB (RT.cls ⟨z0, z1, z2, z3⟩)).size : Int) > 65536) = false := by rw [txB_size]; simp; omega
          have HS5 := Lib.hid hbig
          clear hbig
          obtain ⟨i0, hi, hz0, hz1, hz2⟩ := info_parts info105'
          have HI0 := Lib.hid hi; have HZ0 := Lib.hid hz0; have HZ1 := Lib.hid hz1; have HZ2 := Lib.hid hz2
          clear hi hz0 hz1 hz2
          go_wp2_with fail
          go_region_held3 (fun w' => (w'.cell? ⟨wo.heap.size + 1, 0, none⟩ = some (.string (txB (RT.cls ⟨z0, z1, z2, z3⟩))) ∧ w'.cell? ⟨wo.heap.size + 1, 1, none⟩ = some (.int .i64 2)))
            (first | go_keep | skip)
            (first | (rw [show (w5.alloc (.cells #[.string (txB (RT.cls ⟨z0, z1, z2, z3⟩)), .int .i64 2] 105)).drew = w5.drew.alloc (.cells #[.string (txB (RT.cls ⟨z0, z1, z2, z3⟩)), .int .i64 2] 105) from rfl]; refine step_append_cells (w0 := w) (W := w5.drew) w.heap.size (by rfl) _ _ 102 105 _ 2 24 rfl Try.underlying102 info105' rfl (by decide) (by decide) (.slice B r.length cb) r.length (hrow r) [.string (txB (RT.cls ⟨z0, z1, z2, z3⟩)), .int .i64 2] rfl rfl rfl (one_hv (RT.cls ⟨z0, z1, z2, z3⟩)) (Fr.own_move HO6.out fun _ _ => rfl) (below_drew HB5.out) HB5.out.size (by have := HRL.out; omega) ?_; intro v1 w6 ho1 hb1 hg1 hat1; obtain ⟨A5, c5, rfl⟩ := own_slice ho1; have hx1 := blk_grown (Q17 HX5.out) hg1 HNE.out; obtain ⟨y0, y1⟩ : w6.cell? ⟨wo.heap.size + 1, 0, none⟩ = some (.string (txB (RT.cls ⟨z0, z1, z2, z3⟩))) ∧ w6.cell? ⟨wo.heap.size + 1, 1, none⟩ = some (.int .i64 2) := ⟨Q10 hx1 0, Q10 hx1 1⟩; have HO7 := Lib.hid ho1; have HB7 := Lib.hid hb1; clear ho1 hb1 hg1 hat1 hx1))
          go_wp2
          go_roundw
          case rel => exact ⟨k + 1, (RT.cls ⟨z0, z1, z2, z3⟩) :: r, A5, c5, by omega, by go_num, rfl, HRUN.out, (fun a ha => (List.mem_cons.1 ha).elim (fun e => by rw [e]; exact Nat.le_of_not_gt HS5.out) (fun h => HH.out.txt a h)), by rw [hrow_cons]; exact HO7.out, HB7.out⟩
          case measure => simp [intOf]; omega
      · obtain ⟨o0, ⟨z0, z1, z2, z3⟩⟩ := nn
        dsimp only at hop n0 n1 n2 n3 n4 HBX
        subst hop
        subst hx
        subst hs
        have HA := Lib.hid (parts_f 0 5)
        have hln : ((a :: r).length : Int) - 1 = (r.length : Int) := by simp only [List.length_cons]; omega
        have hpos : r.length < (a :: r).length := by simp only [List.length_cons]; omega
        have hle : (r.length : Int) < ((a :: r).length : Int) := by omega
        obtain ⟨gB, hBe, hgl, c0, c1⟩ := cells_half HH.out.own hpos
        have HBE := Lib.hid hBe
        clear hBe
        have hrw : hrow (a :: r) = hrow r ++ (hv a ++ []) := by rw [hrow_cons, List.append_nil]
        rw [hrw, (hrow_at r a _).1] at c0
        rw [hrw, (hrow_at r a _).2] at c1
        obtain ⟨A1, hcutf, hA1⟩ := cut_from B (a :: r).length cb r.length (by omega)
        have hBm : Option.map (fun x : Addr => x.add (r.length * 2)) B = some ⟨gB, r.length * 2, none⟩ := by rw [HBE.out, Option.map_some]; simp only [Addr.add, Nat.zero_add]; split <;> simp_all
        obtain rfl := hA1 gB HBE.out (by omega)
        have hcutt := cut_to B (a :: r).length cb r.length (by omega) hcb
        have hsub : (a :: r).length - r.length = 1 := by simp only [List.length_cons]; omega
        rw [hsub] at hcutf
        have hta : (txB a).size ≤ 65536 := HH.out.txt a (by simp)
        have hLL : r.length + 1 ≤ (a :: r).length ∧ (a :: r).length ≤ r.length + 1 := by simp only [List.length_cons]; omega
        clear hrw hA1 hsub hpos
        generalize (a :: r).length = L at hcutt hcutf hcb hst hln hle hLL ⊢
        have hsz : wo.heap.size + 1 < (wo.alloc (.cells #[.int .i64 5, .int .u64 z0, .int .u64 z1, .int .u64 z2, .int .u64 z3] 45)).heap.size + 1 := by simp
        go_wp2_with fail
        refine (pattern_parts.calls 1 5 1 _ HA.out).mono ?_
        rintro e w2 ⟨rfl, ⟨nd, rfl⟩⟩
        go_upto_region 19 with (fail)
        have hsz0 : ((wo.alloc (.cells #[.int .i64 5, .int .u64 z0, .int .u64 z1, .int .u64 z2, .int .u64 z3] 45)).drewN nd).heap.size = wo.heap.size + 1 := by simp
        have hB5 : Below w.heap.size w (((wo.alloc (.cells #[.int .i64 5, .int .u64 z0, .int .u64 z1, .int .u64 z2, .int .u64 z3] 45)).drewN nd).alloc (.cells #[.string ⟨#[]⟩, .int .i64 5] 105)) := (Q7 (HH.out.bel.alloc HH.out.bel.size _) nd).alloc (by rw [hsz0]; have := HH.out.bel.size; omega) _
        have hX5 : (((wo.alloc (.cells #[.int .i64 5, .int .u64 z0, .int .u64 z1, .int .u64 z2, .int .u64 z3] 45)).drewN nd).alloc (.cells #[.string ⟨#[]⟩, .int .i64 5] 105)).heap[wo.heap.size + 1]? = some (.cells #[.string ⟨#[]⟩, .int .i64 5] 105 (0, 0)) := by rw [← hsz0]; exact heap_alloc_new _ _
        have hO5 : (((wo.alloc (.cells #[.int .i64 5, .int .u64 z0, .int .u64 z1, .int .u64 z2, .int .u64 z3] 45)).drewN nd).alloc (.cells #[.string ⟨#[]⟩, .int .i64 5] 105)).ownsRow w.heap.size 105 2 (.slice B (a :: r).length cb) (a :: r).length (hrow (a :: r)) := (Fr.own_move (HH.out.own.alloc _) fun _ _ => rfl : ((wo.alloc (.cells #[.int .i64 5, .int .u64 z0, .int .u64 z1, .int .u64 z2, .int .u64 z3] 45)).drewN nd).ownsRow w.heap.size 105 2 (.slice B (a :: r).length cb) (a :: r).length (hrow (a :: r))).alloc _
        have hOW : wo.heap.size ≤ (((wo.alloc (.cells #[.int .i64 5, .int .u64 z0, .int .u64 z1, .int .u64 z2, .int .u64 z3] 45)).drewN nd).alloc (.cells #[.string ⟨#[]⟩, .int .i64 5] 105)).heap.size := by simp; omega
        have hOK : ∀ j, (((wo.alloc (.cells #[.int .i64 5, .int .u64 z0, .int .u64 z1, .int .u64 z2, .int .u64 z3] 45)).drewN nd).alloc (.cells #[.string ⟨#[]⟩, .int .i64 5] 105)).cell? ⟨gB, j, none⟩ = wo.cell? ⟨gB, j, none⟩ := fun j => by exact (((Below.refl wo.heap.size wo).alloc (Nat.le_refl _) _ |> fun h => Q7 h nd).alloc (by rw [hsz0]; omega) _).cell (p := ⟨gB, j, none⟩) hgl
        have c0x := (hOK _).trans c0
        have c1x := (hOK _).trans c1
        clear hsz0 hOW hOK c0 c1
        generalize ((wo.alloc (.cells #[.int .i64 5, .int .u64 z0, .int .u64 z1, .int .u64 z2, .int .u64 z3] 45)).drewN nd).alloc (.cells #[.string ⟨#[]⟩, .int .i64 5] 105) = V at hB5 hX5 hO5 c0x c1x ⊢
        have HB5 := Lib.hid hB5; have HX5 := Lib.hid hX5; have HO5 := Lib.hid hO5
        clear hB5 hX5 hO5
        have hgV : gB < V.heap.size := own_lt HO5.out gB (by rw [HBE.out]; rfl)
        have HGV := Lib.hid hgV
        clear hgV
        refine start_ (n := 11) (S := fun w' => w'.cell? ⟨gB, r.length * 2, none⟩ = some (.string (txB a)) ∧ w'.cell? ⟨gB, r.length * 2 + 1, none⟩ = some (.int .i64 a.top)) (ds := [10]) #[ff, ff, ff, ff, ff, ff, ff, ff, ff, ff, ff] (by kernel_rfl) rfl rfl ⟨c0x, c1x⟩ (fun hHeld => ?_)
        have HX6 : Hid (V.drew.heap[wo.heap.size + 1]? = some (.cells #[.string ⟨#[]⟩, .int .i64 5] 105 (0, 0))) := HX5
        have HB6 : Hid (Below V.heap.size V V.drew) := Lib.hid (Below.refl _ _).drew
        clear c0x c1x
        generalize V.drew = w6 at HX6 HB6 hHeld ⊢
        have hbz := brS_size (rowB a.top) (txB a)
        have hbw : (9223372036854775807 < (brS (rowB a.top) (txB a)).size + 1) = False := eq_false (by omega)
        refine Q26 (i := 0) (N := some 50) (v := ?_) (a' := ?_) #[tt, ff, ff, ff, ff, ff, ff, ff, ff, ff, ff] rfl rfl (by kernel_rfl) (fun _ _ _ h => h) (Or.inl ⟨by rfl, ?_⟩) ?_ ?_; rotate_left; intro w'; go_simp; with_reducible rfl; rotate_left; simp only [pS]; rfl
        refine Q26 (i := 1) (N := some 51) (v := ?_) (a' := ?_) #[tt, tt, ff, ff, ff, ff, ff, ff, ff, ff, ff] rfl rfl (by kernel_rfl) (fun _ _ _ h => h) (Or.inl ⟨by rfl, ?_⟩) ?_ ?_; rotate_left; intro w'; go_simp; with_reducible rfl; rotate_left; simp only [pS]; rfl
        refine take_ (i := 2) (N := some 52) (v := ?_) (a' := ?_) #[tt, tt, tt, ff, ff, ff, ff, ff, ff, ff, ff] rfl rfl (by kernel_rfl) (fun _ _ _ h => h) (Or.inl ⟨by rfl, ?_⟩) hHeld ?_ ?_; rotate_left; rintro w' ⟨s0, s1⟩; go_simp; with_reducible rfl; rotate_left; simp only [pS]; rfl
        refine Q26 (i := 3) (N := some 53) (v := ?_) (a' := ?_) #[tt, tt, tt, tt, ff, ff, ff, ff, ff, ff, ff] rfl rfl (by kernel_rfl) (fun _ _ _ h => h) (Or.inl ⟨by rfl, ?_⟩) ?_ ?_; rotate_left; intro w'; go_simp; with_reducible rfl; rotate_left; simp only [pS]; rfl
        refine Q26 (i := 4) (N := some 54) (v := ?_) (a' := ?_) #[tt, tt, tt, tt, tt, ff, ff, ff, ff, ff, ff] rfl rfl (by kernel_rfl) (fun _ _ _ h => h) (Or.inl ⟨by rfl, ?_⟩) ?_ ?_; rotate_left; intro w'; go_simp; with_reducible rfl; rotate_left; simp only [pS]; rfl
        refine take_ (i := 5) (N := some 55) (v := ?_) (a' := ?_) #[tt, tt, tt, tt, tt, tt, ff, ff, ff, ff, ff] rfl rfl (by kernel_rfl) (fun _ _ _ h => h) (Or.inl ⟨by rfl, ?_⟩) hHeld ?_ ?_; rotate_left; rintro w' ⟨s0, s1⟩; go_simp; with_reducible rfl; rotate_left; simp only [pS]; rfl
        refine one_ (i := 6) (N := some 56) #[tt, tt, tt, tt, tt, tt, tt, ff, ff, ff, ff] rfl rfl (by kernel_rfl) (by decide) (fun K hK => ?_)
        refine goes_ Try.func47 (by kernel_rfl) rfl #[.agg #[.string (txB a), .int .i64 a.top]] (by rfl) rfl rfl (by (try simp only [List.map_toArray, List.map_cons, List.map_nil]); first | done | rfl) ?_
        refine (row_any (txB a) a.top _).mono ?_
        rintro e w7 ⟨rfl, hb⟩
        have hS := (show (fun w' => w'.cell? ⟨gB, r.length * 2, none⟩ = some (.string (txB a)) ∧ w'.cell? ⟨gB, r.length * 2 + 1, none⟩ = some (.int .i64 a.top)) w7 from ⟨(hb.cell (p := ⟨gB, _, none⟩) (by have := HB6.out.size; have := HGV.out; dsimp only; omega)).trans hHeld.1, (hb.cell (p := ⟨gB, _, none⟩) (by have := HB6.out.size; have := HGV.out; dsimp only; omega)).trans hHeld.2⟩)
        have hx := hb.block _ (Fr.heap_lt' HX6.out) |>.trans HX6.out
        have HX6' := Lib.hid hx
        have HB6' := Lib.hid (HB6.out.trans (hb.mono HB6.out.size))
        clear hb hx HX6 HB6 hHeld
        rename Hid (w7.heap[wo.heap.size + 1]? = _) => HX6
        rename Hid (Below V.heap.size V w7) => HB6
        skip
        refine ⟨_, rfl, ?_⟩
        refine hK.out _ _ hS (fun hHeld => ?_)
        clear hK K
        refine norm_ (a' := ?_) ?_ ?_; rotate_left; show Act.put _ (some 56) _ = _; simp only [pS]; rfl
        refine one_ (i := 7) (N := some 57) #[tt, tt, tt, tt, tt, tt, tt, tt, ff, ff, ff] rfl rfl (by kernel_rfl) (by decide) (fun K hK => ?_)
        refine goes_ Try.func46 (by kernel_rfl) rfl #[.agg #[.string (txB a), .int .i64 a.top], .bool (rowB a.top)] (by rfl) rfl rfl (by (try simp only [List.map_toArray, List.map_cons, List.map_nil]); first | done | rfl) ?_
        refine (in_any (txB a) a.top (rowB a.top) _ hta).mono ?_
        rintro e w7 ⟨rfl, hb⟩
        have hS := (show (fun w' => w'.cell? ⟨gB, r.length * 2, none⟩ = some (.string (txB a)) ∧ w'.cell? ⟨gB, r.length * 2 + 1, none⟩ = some (.int .i64 a.top)) w7 from ⟨(hb.cell (p := ⟨gB, _, none⟩) (by have := HB6.out.size; have := HGV.out; dsimp only; omega)).trans hHeld.1, (hb.cell (p := ⟨gB, _, none⟩) (by have := HB6.out.size; have := HGV.out; dsimp only; omega)).trans hHeld.2⟩)
        have hx := hb.block _ (Fr.heap_lt' HX6.out) |>.trans HX6.out
        have HX6' := Lib.hid hx
        have HB6' := Lib.hid (HB6.out.trans (hb.mono HB6.out.size))
        clear hb hx HX6 HB6 hHeld
        rename Hid (w7.heap[wo.heap.size + 1]? = _) => HX6
        rename Hid (Below V.heap.size V w7) => HB6
        skip
        refine ⟨_, rfl, ?_⟩
        refine hK.out _ _ hS (fun hHeld => ?_)
        clear hK K
        refine norm_ (a' := ?_) ?_ ?_; rotate_left; show Act.put _ (some 57) _ = _; simp only [pS]; rfl
        refine Q26 (i := 8) (N := some 58) (v := ?_) (a' := ?_) #[tt, tt, tt, tt, tt, tt, tt, tt, tt, ff, ff] rfl rfl (by kernel_rfl) (fun _ _ _ h => h) (Or.inl ⟨by rfl, ?_⟩) ?_ ?_; rotate_left; intro w'; go_simp; with_reducible rfl; rotate_left; simp only [pS]; rfl
        refine Q26 (i := 9) (N := some 59) (v := ?_) (a' := ?_) #[tt, tt, tt, tt, tt, tt, tt, tt, tt, tt, ff] rfl rfl (by kernel_rfl) (fun _ _ _ h => h) (Or.inl ⟨by rfl, ?_⟩) ?_ ?_; rotate_left; intro w'; go_simp; with_reducible rfl; rotate_left; simp only [pS]; rfl
        obtain ⟨px, fx⟩ : w7.cell? ⟨wo.heap.size + 1, 0, none⟩ = some (.string ⟨#[]⟩) ∧ w7.frozen? ⟨wo.heap.size + 1, 0, none⟩ = false := ⟨Q10 HX6.out 0, Q11 HX6.out 0⟩
        refine last_ (i := 10) (N := none) #[tt, tt, tt, tt, tt, tt, tt, tt, tt, tt, tt] rfl rfl (by kernel_rfl) (by decide) (fun K hK => ?_)
        (with_reducible refine skip_ (w1 := ?_) ?hw_ ?hN_ ?_ ?_); (case hw_ => rfl); (case hN_ => rfl)
        rotate_left
        · go_simp
          rfl
        refine hK.out _ _ ?_
        clear hK K
        refine done_ (by kernel_rfl) ?_
        go_upto_region 24 with (fail)
        have hB5 : Below w.heap.size w (w7.setCell ⟨wo.heap.size + 1, 0, none⟩ (.string (brS (rowB a.top) (txB a) ++ (⟨#[42]⟩ : ByteArray)))) := (HB5.out.trans (HB6.out.mono HB5.out.size)).setCell (by have := HH.out.bel.size; dsimp only; omega) _
        have hX5 : (w7.setCell ⟨wo.heap.size + 1, 0, none⟩ (.string (brS (rowB a.top) (txB a) ++ (⟨#[42]⟩ : ByteArray)))).heap[wo.heap.size + 1]? = some (.cells #[.string (txB (RT.star a)), .int .i64 5] 105 (0, 0)) := by rw [← star_txt a]; exact blk_set HX6.out 0 _
        have hO5 : (w7.setCell ⟨wo.heap.size + 1, 0, none⟩ (.string (brS (rowB a.top) (txB a) ++ (⟨#[42]⟩ : ByteArray)))).ownsRow w.heap.size 105 2 (.slice B (a :: r).length cb) (a :: r).length (hrow (a :: r)) := own_setCell (pw_own_below HO5.out HB6.out) (fun e => by have := own_lt HH.out.own _ e.symm; dsimp only at this; omega) _
        clear px fx hHeld
        generalize w7.setCell ⟨wo.heap.size + 1, 0, none⟩ (.string (brS (rowB a.top) (txB a) ++ (⟨#[42]⟩ : ByteArray))) = w5 at hB5 hX5 hO5 ⊢
        have hO6 := own_take hO5 (m := r.length) (by simp only [List.length_cons]; omega)
        rw [hrow_cons, List.take_append_of_le_length (by rw [hrow_len]; omega), List.take_of_length_le (by rw [hrow_len]; omega)] at hO6
        have p0 : w5.cell? ⟨wo.heap.size + 1, 0, none⟩ = some (.string (txB (RT.star a))) := Q10 hX5 0
        have p1 : w5.cell? ⟨wo.heap.size + 1, 1, none⟩ = some (.int .i64 5) := Q10 hX5 1
        have HX5 := Lib.hid hX5; have HO6 := Lib.hid hO6; have HB5 := Lib.hid hB5
        have HRL := Lib.hid (show r.length ≤ 4096 by omega)
        have HNE := Lib.hid (show some (wo.heap.size + 1) ≠ (Value.slice B r.length cb).ownBlock from fun e => by have := own_lt (own_take HH.out.own (m := r.length) (by simp only [List.length_cons]; omega)) _ e.symm; omega)
        clear hX5 hO5 hO6 hB5
        by_cases hbig : (RT.star a).txt.length > 65536
        · have hbd : decide (((txB (RT.star a)).size : Int) > 65536) = true := by rw [txB_size]; simp; omega
          have HP5 := Lib.hid (HPL.out (RT.star a) rfl hbig)
          clear hbig
          go_wp2
          go_ret2
          exact ⟨by rw [HP5.out]; rfl, HB5.out⟩
        · have hbd : decide (((txB (RT.star a)).size : Int) > 65536) = false := by rw [txB_size]; simp; omega
          have HS5 := Lib.hid hbig
          clear hbig
          obtain ⟨i0, hi, hz0, hz1, hz2⟩ := info_parts info105'
          have HI0 := Lib.hid hi; have HZ0 := Lib.hid hz0; have HZ1 := Lib.hid hz1; have HZ2 := Lib.hid hz2
          clear hi hz0 hz1 hz2
          go_wp2_with fail
          go_region_held3 (fun w' => (w'.cell? ⟨wo.heap.size + 1, 0, none⟩ = some (.string (txB (RT.star a))) ∧ w'.cell? ⟨wo.heap.size + 1, 1, none⟩ = some (.int .i64 5)))
            (first | go_keep | skip)
            (first | (rw [show (w5.alloc (.cells #[.string (txB (RT.star a)), .int .i64 5] 105)).drew = w5.drew.alloc (.cells #[.string (txB (RT.star a)), .int .i64 5] 105) from rfl]; refine step_append_cells (w0 := w) (W := w5.drew) w.heap.size (by rfl) _ _ 102 105 _ 2 24 rfl Try.underlying102 info105' rfl (by decide) (by decide) (.slice B r.length cb) r.length (hrow r) [.string (txB (RT.star a)), .int .i64 5] rfl rfl rfl (one_hv (RT.star a)) (Fr.own_move HO6.out fun _ _ => rfl) (below_drew HB5.out) HB5.out.size (by have := HRL.out; omega) ?_; intro v1 w6 ho1 hb1 hg1 hat1; obtain ⟨A5, c5, rfl⟩ := own_slice ho1; have hx1 := blk_grown (Q17 HX5.out) hg1 HNE.out; obtain ⟨y0, y1⟩ : w6.cell? ⟨wo.heap.size + 1, 0, none⟩ = some (.string (txB (RT.star a))) ∧ w6.cell? ⟨wo.heap.size + 1, 1, none⟩ = some (.int .i64 5) := ⟨Q10 hx1 0, Q10 hx1 1⟩; have HO7 := Lib.hid ho1; have HB7 := Lib.hid hb1; clear ho1 hb1 hg1 hat1 hx1))
          go_wp2
          go_roundw
          case rel => exact ⟨k + 1, (RT.star a) :: r, A5, c5, by omega, by go_num, rfl, HRUN.out, (fun a ha => (List.mem_cons.1 ha).elim (fun e => by rw [e]; exact Nat.le_of_not_gt HS5.out) (fun h => HH.out.txt a (by simp [h]))), by rw [hrow_cons]; exact HO7.out, HB7.out⟩
          case measure => simp [intOf]; omega
      · obtain ⟨o0, ⟨z0, z1, z2, z3⟩⟩ := nn
        dsimp only at hop n0 n1 n2 n3 n4 HBX
        subst hop
        subst hx
        subst hs
        have HA := Lib.hid (parts_f 0 3)
        have hln : ((b :: a :: r).length : Int) - 2 = (r.length : Int) := by simp only [List.length_cons]; omega
        have hpos : r.length < (b :: a :: r).length := by simp only [List.length_cons]; omega
        have hle : (r.length : Int) < ((b :: a :: r).length : Int) := by omega
        obtain ⟨gB, hBe, hgl, c0, c1⟩ := cells_half HH.out.own hpos
        have HBE := Lib.hid hBe
        clear hBe
        have hrw : hrow (b :: a :: r) = hrow r ++ (hv a ++ hv b) := by rw [hrow_cons, hrow_cons, List.append_assoc]
        rw [hrw, (hrow_at r a _).1] at c0
        rw [hrw, (hrow_at r a _).2] at c1
        obtain ⟨gB2, eB2, _, d0, d1⟩ := cells_half HH.out.own (j := r.length + 1) (by simp only [List.length_cons]; omega)
        obtain rfl : gB = gB2 := by have := HBE.out; rw [eB2] at this; simpa using this.symm
        have hrw2 : hrow (b :: a :: r) = hrow (a :: r) ++ (hv b ++ []) := by rw [hrow_cons b, List.append_nil]
        rw [hrw2] at d0 d1
        have q0 := (hrow_at (a :: r) b []).1
        have q1 := (hrow_at (a :: r) b []).2
        rw [List.length_cons] at q0 q1
        rw [q0] at d0
        rw [q1] at d1
        clear eB2 q0 q1 hrw2
        obtain ⟨A1, hcutf, hA1⟩ := cut_from B (b :: a :: r).length cb r.length (by omega)
        have hBm : Option.map (fun x : Addr => x.add (r.length * 2)) B = some ⟨gB, r.length * 2, none⟩ := by rw [HBE.out, Option.map_some]; simp only [Addr.add, Nat.zero_add]; split <;> simp_all
        obtain rfl := hA1 gB HBE.out (by omega)
        have hcutt := cut_to B (b :: a :: r).length cb r.length (by omega) hcb
        have hsub : (b :: a :: r).length - r.length = 2 := by simp only [List.length_cons]; omega
        rw [hsub] at hcutf
        have hta : (txB a).size ≤ 65536 := HH.out.txt a (by simp)
        have htb : (txB b).size ≤ 65536 := HH.out.txt b (by simp)
        have hLL : r.length + 2 ≤ (b :: a :: r).length ∧ (b :: a :: r).length ≤ r.length + 2 := by simp only [List.length_cons]; omega
        clear hrw hA1 hsub hpos
        generalize (b :: a :: r).length = L at hcutt hcutf hcb hst hln hle hLL ⊢
        have hsz : wo.heap.size + 1 < (wo.alloc (.cells #[.int .i64 3, .int .u64 z0, .int .u64 z1, .int .u64 z2, .int .u64 z3] 45)).heap.size + 1 := by simp
        go_wp2_with fail
        refine (pattern_parts.calls 1 3 2 _ HA.out).mono ?_
        rintro e w2 ⟨rfl, ⟨nd, rfl⟩⟩
        go_upto_region 21 with (fail)
        have hsz0 : ((wo.alloc (.cells #[.int .i64 3, .int .u64 z0, .int .u64 z1, .int .u64 z2, .int .u64 z3] 45)).drewN nd).heap.size = wo.heap.size + 1 := by simp
        have hB5 : Below w.heap.size w (((wo.alloc (.cells #[.int .i64 3, .int .u64 z0, .int .u64 z1, .int .u64 z2, .int .u64 z3] 45)).drewN nd).alloc (.cells #[.string ⟨#[]⟩, .int .i64 3] 105)) := (Q7 (HH.out.bel.alloc HH.out.bel.size _) nd).alloc (by rw [hsz0]; have := HH.out.bel.size; omega) _
        have hX5 : (((wo.alloc (.cells #[.int .i64 3, .int .u64 z0, .int .u64 z1, .int .u64 z2, .int .u64 z3] 45)).drewN nd).alloc (.cells #[.string ⟨#[]⟩, .int .i64 3] 105)).heap[wo.heap.size + 1]? = some (.cells #[.string ⟨#[]⟩, .int .i64 3] 105 (0, 0)) := by rw [← hsz0]; exact heap_alloc_new _ _
        have hO5 : (((wo.alloc (.cells #[.int .i64 3, .int .u64 z0, .int .u64 z1, .int .u64 z2, .int .u64 z3] 45)).drewN nd).alloc (.cells #[.string ⟨#[]⟩, .int .i64 3] 105)).ownsRow w.heap.size 105 2 (.slice B (b :: a :: r).length cb) (b :: a :: r).length (hrow (b :: a :: r)) := (Fr.own_move (HH.out.own.alloc _) fun _ _ => rfl : ((wo.alloc (.cells #[.int .i64 3, .int .u64 z0, .int .u64 z1, .int .u64 z2, .int .u64 z3] 45)).drewN nd).ownsRow w.heap.size 105 2 (.slice B (b :: a :: r).length cb) (b :: a :: r).length (hrow (b :: a :: r))).alloc _
        have hOW : wo.heap.size ≤ (((wo.alloc (.cells #[.int .i64 3, .int .u64 z0, .int .u64 z1, .int .u64 z2, .int .u64 z3] 45)).drewN nd).alloc (.cells #[.string ⟨#[]⟩, .int .i64 3] 105)).heap.size := by simp; omega
        have hOK : ∀ j, (((wo.alloc (.cells #[.int .i64 3, .int .u64 z0, .int .u64 z1, .int .u64 z2, .int .u64 z3] 45)).drewN nd).alloc (.cells #[.string ⟨#[]⟩, .int .i64 3] 105)).cell? ⟨gB, j, none⟩ = wo.cell? ⟨gB, j, none⟩ := fun j => by exact (((Below.refl wo.heap.size wo).alloc (Nat.le_refl _) _ |> fun h => Q7 h nd).alloc (by rw [hsz0]; omega) _).cell (p := ⟨gB, j, none⟩) hgl
        have c0x := (hOK _).trans c0
        have c1x := (hOK _).trans c1
        have d0x := (hOK _).trans d0
        have d1x := (hOK _).trans d1
        clear hsz0 hOW hOK c0 c1 d0 d1
        generalize ((wo.alloc (.cells #[.int .i64 3, .int .u64 z0, .int .u64 z1, .int .u64 z2, .int .u64 z3] 45)).drewN nd).alloc (.cells #[.string ⟨#[]⟩, .int .i64 3] 105) = V at hB5 hX5 hO5 c0x c1x d0x d1x ⊢
        have HB5 := Lib.hid hB5; have HX5 := Lib.hid hX5; have HO5 := Lib.hid hO5
        clear hB5 hX5 hO5
        rw [show (r.length + 1) * 2 = r.length * 2 + 2 by omega] at d0x d1x
        have hgV : gB < V.heap.size := own_lt HO5.out gB (by rw [HBE.out]; rfl)
        have HGV := Lib.hid hgV
        clear hgV
        refine start_ (n := 20) (S := fun w' => w'.cell? ⟨gB, r.length * 2, none⟩ = some (.string (txB a)) ∧ w'.cell? ⟨gB, r.length * 2 + 1, none⟩ = some (.int .i64 a.top) ∧ w'.cell? ⟨gB, r.length * 2 + 2, none⟩ = some (.string (txB b)) ∧ w'.cell? ⟨gB, r.length * 2 + 3, none⟩ = some (.int .i64 b.top)) (ds := [19]) #[ff, ff, ff, ff, ff, ff, ff, ff, ff, ff, ff, ff, ff, ff, ff, ff, ff, ff, ff, ff] (by kernel_rfl) rfl rfl ⟨c0x, c1x, d0x, d1x⟩ (fun hHeld => ?_)
        have HX6 : Hid (V.drew.heap[wo.heap.size + 1]? = some (.cells #[.string ⟨#[]⟩, .int .i64 3] 105 (0, 0))) := HX5
        have HB6 : Hid (Below V.heap.size V V.drew) := Lib.hid (Below.refl _ _).drew
        clear c0x c1x d0x d1x
        generalize V.drew = w6 at HX6 HB6 hHeld ⊢
        have hbz := brS_size (rowB a.top) (txB a)
        have hby := brS_size (b.top == 4) (txB b)
        have hbw : (9223372036854775807 < (brS (rowB a.top) (txB a)).size + (brS (b.top == 4) (txB b)).size) = False := eq_false (by omega)
        refine Q26 (i := 0) (N := some 62) (v := ?_) (a' := ?_) #[tt, ff, ff, ff, ff, ff, ff, ff, ff, ff, ff, ff, ff, ff, ff, ff, ff, ff, ff, ff] rfl rfl (by kernel_rfl) (fun _ _ _ h => h) (Or.inl ⟨by rfl, ?_⟩) ?_ ?_; rotate_left; intro w'; go_simp; with_reducible rfl; rotate_left; simp only [pS]; rfl
        refine Q26 (i := 1) (N := some 63) (v := ?_) (a' := ?_) #[tt, tt, ff, ff, ff, ff, ff, ff, ff, ff, ff, ff, ff, ff, ff, ff, ff, ff, ff, ff] rfl rfl (by kernel_rfl) (fun _ _ _ h => h) (Or.inl ⟨by rfl, ?_⟩) ?_ ?_; rotate_left; intro w'; go_simp; with_reducible rfl; rotate_left; simp only [pS]; rfl
        refine take_ (i := 2) (N := some 64) (v := ?_) (a' := ?_) #[tt, tt, tt, ff, ff, ff, ff, ff, ff, ff, ff, ff, ff, ff, ff, ff, ff, ff, ff, ff] rfl rfl (by kernel_rfl) (fun _ _ _ h => h) (Or.inl ⟨by rfl, ?_⟩) hHeld ?_ ?_; rotate_left; rintro w' ⟨s0, s1, s2, s3⟩; go_simp; with_reducible rfl; rotate_left; simp only [pS]; rfl
        refine Q26 (i := 3) (N := some 65) (v := ?_) (a' := ?_) #[tt, tt, tt, tt, ff, ff, ff, ff, ff, ff, ff, ff, ff, ff, ff, ff, ff, ff, ff, ff] rfl rfl (by kernel_rfl) (fun _ _ _ h => h) (Or.inl ⟨by rfl, ?_⟩) ?_ ?_; rotate_left; intro w'; go_simp; with_reducible rfl; rotate_left; simp only [pS]; rfl
        refine Q26 (i := 4) (N := some 66) (v := ?_) (a' := ?_) #[tt, tt, tt, tt, tt, ff, ff, ff, ff, ff, ff, ff, ff, ff, ff, ff, ff, ff, ff, ff] rfl rfl (by kernel_rfl) (fun _ _ _ h => h) (Or.inl ⟨by rfl, ?_⟩) ?_ ?_; rotate_left; intro w'; go_simp; with_reducible rfl; rotate_left; simp only [pS]; rfl
        refine take_ (i := 5) (N := some 67) (v := ?_) (a' := ?_) #[tt, tt, tt, tt, tt, tt, ff, ff, ff, ff, ff, ff, ff, ff, ff, ff, ff, ff, ff, ff] rfl rfl (by kernel_rfl) (fun _ _ _ h => h) (Or.inl ⟨by rfl, ?_⟩) hHeld ?_ ?_; rotate_left; rintro w' ⟨s0, s1, s2, s3⟩; go_simp; with_reducible rfl; rotate_left; simp only [pS]; rfl
        refine Q26 (i := 8) (N := some 70) (v := ?_) (a' := ?_) #[tt, tt, tt, tt, tt, tt, ff, ff, tt, ff, ff, ff, ff, ff, ff, ff, ff, ff, ff, ff] rfl rfl (by kernel_rfl) (fun _ _ _ h => h) (Or.inl ⟨by rfl, ?_⟩) ?_ ?_; rotate_left; intro w'; go_simp; with_reducible rfl; rotate_left; simp only [pS]; rfl
        refine Q26 (i := 9) (N := some 71) (v := ?_) (a' := ?_) #[tt, tt, tt, tt, tt, tt, ff, ff, tt, tt, ff, ff, ff, ff, ff, ff, ff, ff, ff, ff] rfl rfl (by kernel_rfl) (fun _ _ _ h => h) (Or.inl ⟨by rfl, ?_⟩) ?_ ?_; rotate_left; intro w'; go_simp; with_reducible rfl; rotate_left; simp only [pS]; rfl
        refine take_ (i := 10) (N := some 72) (v := ?_) (a' := ?_) #[tt, tt, tt, tt, tt, tt, ff, ff, tt, tt, tt, ff, ff, ff, ff, ff, ff, ff, ff, ff] rfl rfl (by kernel_rfl) (fun _ _ _ h => h) (Or.inl ⟨by rfl, ?_⟩) hHeld ?_ ?_; rotate_left; rintro w' ⟨s0, s1, s2, s3⟩; go_simp; with_reducible rfl; rotate_left; simp only [pS]; rfl
        refine Q26 (i := 11) (N := some 73) (v := ?_) (a' := ?_) #[tt, tt, tt, tt, tt, tt, ff, ff, tt, tt, tt, tt, ff, ff, ff, ff, ff, ff, ff, ff] rfl rfl (by kernel_rfl) (fun _ _ _ h => h) (Or.inl ⟨by rfl, ?_⟩) ?_ ?_; rotate_left; intro w'; go_simp; with_reducible rfl; rotate_left; simp only [pS]; rfl
        refine Q26 (i := 12) (N := some 74) (v := ?_) (a' := ?_) #[tt, tt, tt, tt, tt, tt, ff, ff, tt, tt, tt, tt, tt, ff, ff, ff, ff, ff, ff, ff] rfl rfl (by kernel_rfl) (fun _ _ _ h => h) (Or.inl ⟨by rfl, ?_⟩) ?_ ?_; rotate_left; intro w'; go_simp; with_reducible rfl; rotate_left; simp only [pS]; rfl
        refine Q26 (i := 13) (N := some 75) (v := ?_) (a' := ?_) #[tt, tt, tt, tt, tt, tt, ff, ff, tt, tt, tt, tt, tt, tt, ff, ff, ff, ff, ff, ff] rfl rfl (by kernel_rfl) (fun _ _ _ h => h) (Or.inl ⟨by rfl, ?_⟩) ?_ ?_; rotate_left; intro w'; go_simp; with_reducible rfl; rotate_left; simp only [pS]; rfl
        refine take_ (i := 14) (N := some 76) (v := ?_) (a' := ?_) #[tt, tt, tt, tt, tt, tt, ff, ff, tt, tt, tt, tt, tt, tt, tt, ff, ff, ff, ff, ff] rfl rfl (by kernel_rfl) (fun _ _ _ h => h) (Or.inl ⟨by rfl, ?_⟩) hHeld ?_ ?_; rotate_left; rintro w' ⟨s0, s1, s2, s3⟩; go_simp; with_reducible rfl; rotate_left; simp only [pS]; rfl
        refine Q26 (i := 15) (N := some 77) (v := ?_) (a' := ?_) #[tt, tt, tt, tt, tt, tt, ff, ff, tt, tt, tt, tt, tt, tt, tt, tt, ff, ff, ff, ff] rfl rfl (by kernel_rfl) (fun _ _ _ h => h) (Or.inl ⟨by rfl, ?_⟩) ?_ ?_; rotate_left; intro w'; go_simp; with_reducible rfl; rotate_left; simp only [pS]; rfl
        refine one_ (i := 6) (N := some 68) #[tt, tt, tt, tt, tt, tt, tt, ff, tt, tt, tt, tt, tt, tt, tt, tt, ff, ff, ff, ff] rfl rfl (by kernel_rfl) (by decide) (fun K hK => ?_)
        refine goes_ Try.func47 (by kernel_rfl) rfl #[.agg #[.string (txB a), .int .i64 a.top]] (by rfl) rfl rfl (by (try simp only [List.map_toArray, List.map_cons, List.map_nil]); first | done | rfl) ?_
        refine (row_any (txB a) a.top _).mono ?_
        rintro e w7 ⟨rfl, hb⟩
        have hS := (show (fun w' => w'.cell? ⟨gB, r.length * 2, none⟩ = some (.string (txB a)) ∧ w'.cell? ⟨gB, r.length * 2 + 1, none⟩ = some (.int .i64 a.top) ∧ w'.cell? ⟨gB, r.length * 2 + 2, none⟩ = some (.string (txB b)) ∧ w'.cell? ⟨gB, r.length * 2 + 3, none⟩ = some (.int .i64 b.top)) w7 from ⟨(hb.cell (p := ⟨gB, _, none⟩) (by have := HB6.out.size; have := HGV.out; dsimp only; omega)).trans hHeld.1, (hb.cell (p := ⟨gB, _, none⟩) (by have := HB6.out.size; have := HGV.out; dsimp only; omega)).trans hHeld.2.1, (hb.cell (p := ⟨gB, _, none⟩) (by have := HB6.out.size; have := HGV.out; dsimp only; omega)).trans hHeld.2.2.1, (hb.cell (p := ⟨gB, _, none⟩) (by have := HB6.out.size; have := HGV.out; dsimp only; omega)).trans hHeld.2.2.2⟩)
        have hx := hb.block _ (Fr.heap_lt' HX6.out) |>.trans HX6.out
        have HX6' := Lib.hid hx
        have HB6' := Lib.hid (HB6.out.trans (hb.mono HB6.out.size))
        clear hb hx HX6 HB6 hHeld
        rename Hid (w7.heap[wo.heap.size + 1]? = _) => HX6
        rename Hid (Below V.heap.size V w7) => HB6
        skip
        refine ⟨_, rfl, ?_⟩
        refine hK.out _ _ hS (fun hHeld => ?_)
        clear hK K
        refine norm_ (a' := ?_) ?_ ?_; rotate_left; show Act.put _ (some 68) _ = _; simp only [pS]; rfl
        refine one_ (i := 7) (N := some 69) #[tt, tt, tt, tt, tt, tt, tt, tt, tt, tt, tt, tt, tt, tt, tt, tt, ff, ff, ff, ff] rfl rfl (by kernel_rfl) (by decide) (fun K hK => ?_)
        refine goes_ Try.func46 (by kernel_rfl) rfl #[.agg #[.string (txB a), .int .i64 a.top], .bool (rowB a.top)] (by rfl) rfl rfl (by (try simp only [List.map_toArray, List.map_cons, List.map_nil]); first | done | rfl) ?_
        refine (in_any (txB a) a.top (rowB a.top) _ hta).mono ?_
        rintro e w7 ⟨rfl, hb⟩
        have hS := (show (fun w' => w'.cell? ⟨gB, r.length * 2, none⟩ = some (.string (txB a)) ∧ w'.cell? ⟨gB, r.length * 2 + 1, none⟩ = some (.int .i64 a.top) ∧ w'.cell? ⟨gB, r.length * 2 + 2, none⟩ = some (.string (txB b)) ∧ w'.cell? ⟨gB, r.length * 2 + 3, none⟩ = some (.int .i64 b.top)) w7 from ⟨(hb.cell (p := ⟨gB, _, none⟩) (by have := HB6.out.size; have := HGV.out; dsimp only; omega)).trans hHeld.1, (hb.cell (p := ⟨gB, _, none⟩) (by have := HB6.out.size; have := HGV.out; dsimp only; omega)).trans hHeld.2.1, (hb.cell (p := ⟨gB, _, none⟩) (by have := HB6.out.size; have := HGV.out; dsimp only; omega)).trans hHeld.2.2.1, (hb.cell (p := ⟨gB, _, none⟩) (by have := HB6.out.size; have := HGV.out; dsimp only; omega)).trans hHeld.2.2.2⟩)
        have hx := hb.block _ (Fr.heap_lt' HX6.out) |>.trans HX6.out
        have HX6' := Lib.hid hx
        have HB6' := Lib.hid (HB6.out.trans (hb.mono HB6.out.size))
        clear hb hx HX6 HB6 hHeld
        rename Hid (w7.heap[wo.heap.size + 1]? = _) => HX6
        rename Hid (Below V.heap.size V w7) => HB6
        skip
        refine ⟨_, rfl, ?_⟩
        refine hK.out _ _ hS (fun hHeld => ?_)
        clear hK K
        refine norm_ (a' := ?_) ?_ ?_; rotate_left; show Act.put _ (some 69) _ = _; simp only [pS]; rfl
        refine one_ (i := 16) (N := some 78) #[tt, tt, tt, tt, tt, tt, tt, tt, tt, tt, tt, tt, tt, tt, tt, tt, tt, ff, ff, ff] rfl rfl (by kernel_rfl) (by decide) (fun K hK => ?_)
        refine goes_ Try.func46 (by kernel_rfl) rfl #[.agg #[.string (txB b), .int .i64 b.top], .bool (b.top == 4)] (by rfl) rfl rfl (by (try simp only [List.map_toArray, List.map_cons, List.map_nil]); first | done | rfl) ?_
        refine (in_any (txB b) b.top (b.top == 4) _ htb).mono ?_
        rintro e w7 ⟨rfl, hb⟩
        have hS := (show (fun w' => w'.cell? ⟨gB, r.length * 2, none⟩ = some (.string (txB a)) ∧ w'.cell? ⟨gB, r.length * 2 + 1, none⟩ = some (.int .i64 a.top) ∧ w'.cell? ⟨gB, r.length * 2 + 2, none⟩ = some (.string (txB b)) ∧ w'.cell? ⟨gB, r.length * 2 + 3, none⟩ = some (.int .i64 b.top)) w7 from ⟨(hb.cell (p := ⟨gB, _, none⟩) (by have := HB6.out.size; have := HGV.out; dsimp only; omega)).trans hHeld.1, (hb.cell (p := ⟨gB, _, none⟩) (by have := HB6.out.size; have := HGV.out; dsimp only; omega)).trans hHeld.2.1, (hb.cell (p := ⟨gB, _, none⟩) (by have := HB6.out.size; have := HGV.out; dsimp only; omega)).trans hHeld.2.2.1, (hb.cell (p := ⟨gB, _, none⟩) (by have := HB6.out.size; have := HGV.out; dsimp only; omega)).trans hHeld.2.2.2⟩)
        have hx := hb.block _ (Fr.heap_lt' HX6.out) |>.trans HX6.out
        have HX6' := Lib.hid hx
        have HB6' := Lib.hid (HB6.out.trans (hb.mono HB6.out.size))
        clear hb hx HX6 HB6 hHeld
        rename Hid (w7.heap[wo.heap.size + 1]? = _) => HX6
        rename Hid (Below V.heap.size V w7) => HB6
        skip
        refine ⟨_, rfl, ?_⟩
        refine hK.out _ _ hS (fun hHeld => ?_)
        clear hK K
        refine norm_ (a' := ?_) ?_ ?_; rotate_left; show Act.put _ (some 78) _ = _; simp only [pS]; rfl
        refine Q26 (i := 17) (N := some 79) (v := ?_) (a' := ?_) #[tt, tt, tt, tt, tt, tt, tt, tt, tt, tt, tt, tt, tt, tt, tt, tt, tt, tt, ff, ff] rfl rfl (by kernel_rfl) (fun _ _ _ h => h) (Or.inl ⟨by rfl, ?_⟩) ?_ ?_; rotate_left; intro w'; go_simp; with_reducible rfl; rotate_left; simp only [pS]; rfl
        refine Q26 (i := 18) (N := some 80) (v := ?_) (a' := ?_) #[tt, tt, tt, tt, tt, tt, tt, tt, tt, tt, tt, tt, tt, tt, tt, tt, tt, tt, tt, ff] rfl rfl (by kernel_rfl) (fun _ _ _ h => h) (Or.inl ⟨by rfl, ?_⟩) ?_ ?_; rotate_left; intro w'; go_simp; with_reducible rfl; rotate_left; simp only [pS]; rfl
        obtain ⟨px, fx⟩ : w7.cell? ⟨wo.heap.size + 1, 0, none⟩ = some (.string ⟨#[]⟩) ∧ w7.frozen? ⟨wo.heap.size + 1, 0, none⟩ = false := ⟨Q10 HX6.out 0, Q11 HX6.out 0⟩
        refine last_ (i := 19) (N := none) #[tt, tt, tt, tt, tt, tt, tt, tt, tt, tt, tt, tt, tt, tt, tt, tt, tt, tt, tt, tt] rfl rfl (by kernel_rfl) (by decide) (fun K hK => ?_)
        (with_reducible refine skip_ (w1 := ?_) ?hw_ ?hN_ ?_ ?_); (case hw_ => rfl); (case hN_ => rfl)
        rotate_left
        · go_simp
          rfl
        refine hK.out _ _ ?_
        clear hK K
        refine done_ (by kernel_rfl) ?_
        go_upto_region 24 with (fail)
        have hB5 : Below w.heap.size w (w7.setCell ⟨wo.heap.size + 1, 0, none⟩ (.string (brS (rowB a.top) (txB a) ++ brS (b.top == 4) (txB b)))) := (HB5.out.trans (HB6.out.mono HB5.out.size)).setCell (by have := HH.out.bel.size; dsimp only; omega) _
        have hX5 : (w7.setCell ⟨wo.heap.size + 1, 0, none⟩ (.string (brS (rowB a.top) (txB a) ++ brS (b.top == 4) (txB b)))).heap[wo.heap.size + 1]? = some (.cells #[.string (txB (RT.seq a b)), .int .i64 3] 105 (0, 0)) := by rw [← seq_txt a b]; exact blk_set HX6.out 0 _
        have hO5 : (w7.setCell ⟨wo.heap.size + 1, 0, none⟩ (.string (brS (rowB a.top) (txB a) ++ brS (b.top == 4) (txB b)))).ownsRow w.heap.size 105 2 (.slice B (b :: a :: r).length cb) (b :: a :: r).length (hrow (b :: a :: r)) := own_setCell (pw_own_below HO5.out HB6.out) (fun e => by have := own_lt HH.out.own _ e.symm; dsimp only at this; omega) _
        clear px fx hHeld
        generalize w7.setCell ⟨wo.heap.size + 1, 0, none⟩ (.string (brS (rowB a.top) (txB a) ++ brS (b.top == 4) (txB b))) = w5 at hB5 hX5 hO5 ⊢
        have hO6 := own_take hO5 (m := r.length) (by simp only [List.length_cons]; omega)
        rw [hrow_cons, hrow_cons, List.append_assoc, List.take_append_of_le_length (by rw [hrow_len]; omega), List.take_of_length_le (by rw [hrow_len]; omega)] at hO6
        have p0 : w5.cell? ⟨wo.heap.size + 1, 0, none⟩ = some (.string (txB (RT.seq a b))) := Q10 hX5 0
        have p1 : w5.cell? ⟨wo.heap.size + 1, 1, none⟩ = some (.int .i64 3) := Q10 hX5 1
        have HX5 := Lib.hid hX5; have HO6 := Lib.hid hO6; have HB5 := Lib.hid hB5
        have HRL := Lib.hid (show r.length ≤ 4096 by omega)
        have HNE := Lib.hid (show some (wo.heap.size + 1) ≠ (Value.slice B r.length cb).ownBlock from fun e => by have := own_lt (own_take HH.out.own (m := r.length) (by simp only [List.length_cons]; omega)) _ e.symm; omega)
        clear hX5 hO5 hO6 hB5
        by_cases hbig : (RT.seq a b).txt.length > 65536
        · have hbd : decide (((txB (RT.seq a b)).size : Int) > 65536) = true := by rw [txB_size]; simp; omega
          have HP5 := Lib.hid (HPL.out (RT.seq a b) rfl hbig)
          clear hbig
          go_wp2
          go_ret2
          exact ⟨by rw [HP5.out]; rfl, HB5.out⟩
        · have hbd : decide (((txB (RT.seq a b)).size : Int) > 65536) = false := by rw [txB_size]; simp; omega
          have HS5 := Lib.hid hbig
          clear hbig
          obtain ⟨i0, hi, hz0, hz1, hz2⟩ := info_parts info105'
          have HI0 := Lib.hid hi; have HZ0 := Lib.hid hz0; have HZ1 := Lib.hid hz1; have HZ2 := Lib.hid hz2
          clear hi hz0 hz1 hz2
          go_wp2_with fail
          go_region_held3 (fun w' => (w'.cell? ⟨wo.heap.size + 1, 0, none⟩ = some (.string (txB (RT.seq a b))) ∧ w'.cell? ⟨wo.heap.size + 1, 1, none⟩ = some (.int .i64 3)))
            (first | go_keep | skip)
            (first | (rw [show (w5.alloc (.cells #[.string (txB (RT.seq a b)), .int .i64 3] 105)).drew = w5.drew.alloc (.cells #[.string (txB (RT.seq a b)), .int .i64 3] 105) from rfl]; refine step_append_cells (w0 := w) (W := w5.drew) w.heap.size (by rfl) _ _ 102 105 _ 2 24 rfl Try.underlying102 info105' rfl (by decide) (by decide) (.slice B r.length cb) r.length (hrow r) [.string (txB (RT.seq a b)), .int .i64 3] rfl rfl rfl (one_hv (RT.seq a b)) (Fr.own_move HO6.out fun _ _ => rfl) (below_drew HB5.out) HB5.out.size (by have := HRL.out; omega) ?_; intro v1 w6 ho1 hb1 hg1 hat1; obtain ⟨A5, c5, rfl⟩ := own_slice ho1; have hx1 := blk_grown (Q17 HX5.out) hg1 HNE.out; obtain ⟨y0, y1⟩ : w6.cell? ⟨wo.heap.size + 1, 0, none⟩ = some (.string (txB (RT.seq a b))) ∧ w6.cell? ⟨wo.heap.size + 1, 1, none⟩ = some (.int .i64 3) := ⟨Q10 hx1 0, Q10 hx1 1⟩; have HO7 := Lib.hid ho1; have HB7 := Lib.hid hb1; clear ho1 hb1 hg1 hat1 hx1))
          go_wp2
          go_roundw
          case rel => exact ⟨k + 1, (RT.seq a b) :: r, A5, c5, by omega, by go_num, rfl, HRUN.out, (fun a ha => (List.mem_cons.1 ha).elim (fun e => by rw [e]; exact Nat.le_of_not_gt HS5.out) (fun h => HH.out.txt a (by simp [h]))), by rw [hrow_cons]; exact HO7.out, HB7.out⟩
          case measure => simp [intOf]; omega
      · obtain ⟨o0, ⟨z0, z1, z2, z3⟩⟩ := nn
        dsimp only at hop n0 n1 n2 n3 n4 HBX
        subst hop
        subst hx
        subst hs
        have HA := Lib.hid (parts_f 0 4)
        have hln : ((b :: a :: r).length : Int) - 2 = (r.length : Int) := by simp only [List.length_cons]; omega
        have hpos : r.length < (b :: a :: r).length := by simp only [List.length_cons]; omega
        have hle : (r.length : Int) < ((b :: a :: r).length : Int) := by omega
        obtain ⟨gB, hBe, hgl, c0, c1⟩ := cells_half HH.out.own hpos
        have HBE := Lib.hid hBe
        clear hBe
        have hrw : hrow (b :: a :: r) = hrow r ++ (hv a ++ hv b) := by rw [hrow_cons, hrow_cons, List.append_assoc]
        rw [hrw, (hrow_at r a _).1] at c0
        rw [hrw, (hrow_at r a _).2] at c1
        obtain ⟨gB2, eB2, _, d0, d1⟩ := cells_half HH.out.own (j := r.length + 1) (by simp only [List.length_cons]; omega)
        obtain rfl : gB = gB2 := by have := HBE.out; rw [eB2] at this; simpa using this.symm
        have hrw2 : hrow (b :: a :: r) = hrow (a :: r) ++ (hv b ++ []) := by rw [hrow_cons b, List.append_nil]
        rw [hrw2] at d0 d1
        have q0 := (hrow_at (a :: r) b []).1
        have q1 := (hrow_at (a :: r) b []).2
        rw [List.length_cons] at q0 q1
        rw [q0] at d0
        rw [q1] at d1
        clear eB2 q0 q1 hrw2
        obtain ⟨A1, hcutf, hA1⟩ := cut_from B (b :: a :: r).length cb r.length (by omega)
        have hBm : Option.map (fun x : Addr => x.add (r.length * 2)) B = some ⟨gB, r.length * 2, none⟩ := by rw [HBE.out, Option.map_some]; simp only [Addr.add, Nat.zero_add]; split <;> simp_all
        obtain rfl := hA1 gB HBE.out (by omega)
        have hcutt := cut_to B (b :: a :: r).length cb r.length (by omega) hcb
        have hsub : (b :: a :: r).length - r.length = 2 := by simp only [List.length_cons]; omega
        rw [hsub] at hcutf
        have hta : (txB a).size ≤ 65536 := HH.out.txt a (by simp)
        have htb : (txB b).size ≤ 65536 := HH.out.txt b (by simp)
        have hLL : r.length + 2 ≤ (b :: a :: r).length ∧ (b :: a :: r).length ≤ r.length + 2 := by simp only [List.length_cons]; omega
        clear hrw hA1 hsub hpos
        generalize (b :: a :: r).length = L at hcutt hcutf hcb hst hln hle hLL ⊢
        have hsz : wo.heap.size + 1 < (wo.alloc (.cells #[.int .i64 4, .int .u64 z0, .int .u64 z1, .int .u64 z2, .int .u64 z3] 45)).heap.size + 1 := by simp
        go_wp2_with fail
        refine (pattern_parts.calls 1 4 2 _ HA.out).mono ?_
        rintro e w2 ⟨rfl, ⟨nd, rfl⟩⟩
        go_upto_region 23 with (fail)
        have hsz0 : ((wo.alloc (.cells #[.int .i64 4, .int .u64 z0, .int .u64 z1, .int .u64 z2, .int .u64 z3] 45)).drewN nd).heap.size = wo.heap.size + 1 := by simp
        have hB5 : Below w.heap.size w (((wo.alloc (.cells #[.int .i64 4, .int .u64 z0, .int .u64 z1, .int .u64 z2, .int .u64 z3] 45)).drewN nd).alloc (.cells #[.string ⟨#[]⟩, .int .i64 4] 105)) := (Q7 (HH.out.bel.alloc HH.out.bel.size _) nd).alloc (by rw [hsz0]; have := HH.out.bel.size; omega) _
        have hX5 : (((wo.alloc (.cells #[.int .i64 4, .int .u64 z0, .int .u64 z1, .int .u64 z2, .int .u64 z3] 45)).drewN nd).alloc (.cells #[.string ⟨#[]⟩, .int .i64 4] 105)).heap[wo.heap.size + 1]? = some (.cells #[.string ⟨#[]⟩, .int .i64 4] 105 (0, 0)) := by rw [← hsz0]; exact heap_alloc_new _ _
        have hO5 : (((wo.alloc (.cells #[.int .i64 4, .int .u64 z0, .int .u64 z1, .int .u64 z2, .int .u64 z3] 45)).drewN nd).alloc (.cells #[.string ⟨#[]⟩, .int .i64 4] 105)).ownsRow w.heap.size 105 2 (.slice B (b :: a :: r).length cb) (b :: a :: r).length (hrow (b :: a :: r)) := (Fr.own_move (HH.out.own.alloc _) fun _ _ => rfl : ((wo.alloc (.cells #[.int .i64 4, .int .u64 z0, .int .u64 z1, .int .u64 z2, .int .u64 z3] 45)).drewN nd).ownsRow w.heap.size 105 2 (.slice B (b :: a :: r).length cb) (b :: a :: r).length (hrow (b :: a :: r))).alloc _
        have hOW : wo.heap.size ≤ (((wo.alloc (.cells #[.int .i64 4, .int .u64 z0, .int .u64 z1, .int .u64 z2, .int .u64 z3] 45)).drewN nd).alloc (.cells #[.string ⟨#[]⟩, .int .i64 4] 105)).heap.size := by simp; omega
        have hOK : ∀ j, (((wo.alloc (.cells #[.int .i64 4, .int .u64 z0, .int .u64 z1, .int .u64 z2, .int .u64 z3] 45)).drewN nd).alloc (.cells #[.string ⟨#[]⟩, .int .i64 4] 105)).cell? ⟨gB, j, none⟩ = wo.cell? ⟨gB, j, none⟩ := fun j => by exact (((Below.refl wo.heap.size wo).alloc (Nat.le_refl _) _ |> fun h => Q7 h nd).alloc (by rw [hsz0]; omega) _).cell (p := ⟨gB, j, none⟩) hgl
        have c0x := (hOK _).trans c0
        have c1x := (hOK _).trans c1
        have d0x := (hOK _).trans d0
        have d1x := (hOK _).trans d1
        clear hsz0 hOW hOK c0 c1 d0 d1
        generalize ((wo.alloc (.cells #[.int .i64 4, .int .u64 z0, .int .u64 z1, .int .u64 z2, .int .u64 z3] 45)).drewN nd).alloc (.cells #[.string ⟨#[]⟩, .int .i64 4] 105) = V at hB5 hX5 hO5 c0x c1x d0x d1x ⊢
        have HB5 := Lib.hid hB5; have HX5 := Lib.hid hX5; have HO5 := Lib.hid hO5
        clear hB5 hX5 hO5
        rw [show (r.length + 1) * 2 = r.length * 2 + 2 by omega] at d0x d1x
        have hgV : gB < V.heap.size := own_lt HO5.out gB (by rw [HBE.out]; rfl)
        have HGV := Lib.hid hgV
        clear hgV
        refine start_ (n := 17) (S := fun w' => w'.cell? ⟨gB, r.length * 2, none⟩ = some (.string (txB a)) ∧ w'.cell? ⟨gB, r.length * 2 + 1, none⟩ = some (.int .i64 a.top) ∧ w'.cell? ⟨gB, r.length * 2 + 2, none⟩ = some (.string (txB b)) ∧ w'.cell? ⟨gB, r.length * 2 + 3, none⟩ = some (.int .i64 b.top)) (ds := [16]) #[ff, ff, ff, ff, ff, ff, ff, ff, ff, ff, ff, ff, ff, ff, ff, ff, ff] (by kernel_rfl) rfl rfl ⟨c0x, c1x, d0x, d1x⟩ (fun hHeld => ?_)
        have HX6 : Hid (V.drew.heap[wo.heap.size + 1]? = some (.cells #[.string ⟨#[]⟩, .int .i64 4] 105 (0, 0))) := HX5
        have HB6 : Hid (Below V.heap.size V V.drew) := Lib.hid (Below.refl _ _).drew
        clear c0x c1x d0x d1x
        generalize V.drew = w6 at HX6 HB6 hHeld ⊢
        have hbz := brS_size (a.top == 4) (txB a)
        have hbw : (9223372036854775807 < (brS (a.top == 4) (txB a)).size + 1) = False := eq_false (by omega)
        have hbv : (9223372036854775807 < (brS (a.top == 4) (txB a) ++ (⟨#[124]⟩ : ByteArray)).size + (txB b).size) = False := eq_false (by rw [bapp_size]; show ¬ _ < (brS (a.top == 4) (txB a)).size + 1 + _; omega)
        have hbu : (9223372036854775807 < (brS (a.top == 4) (txB a)).size + 1 + (txB b).size) = False := eq_false (by omega)
        refine Q26 (i := 0) (N := some 83) (v := ?_) (a' := ?_) #[tt, ff, ff, ff, ff, ff, ff, ff, ff, ff, ff, ff, ff, ff, ff, ff, ff] rfl rfl (by kernel_rfl) (fun _ _ _ h => h) (Or.inl ⟨by rfl, ?_⟩) ?_ ?_; rotate_left; intro w'; go_simp; with_reducible rfl; rotate_left; simp only [pS]; rfl
        refine Q26 (i := 1) (N := some 84) (v := ?_) (a' := ?_) #[tt, tt, ff, ff, ff, ff, ff, ff, ff, ff, ff, ff, ff, ff, ff, ff, ff] rfl rfl (by kernel_rfl) (fun _ _ _ h => h) (Or.inl ⟨by rfl, ?_⟩) ?_ ?_; rotate_left; intro w'; go_simp; with_reducible rfl; rotate_left; simp only [pS]; rfl
        refine take_ (i := 2) (N := some 85) (v := ?_) (a' := ?_) #[tt, tt, tt, ff, ff, ff, ff, ff, ff, ff, ff, ff, ff, ff, ff, ff, ff] rfl rfl (by kernel_rfl) (fun _ _ _ h => h) (Or.inl ⟨by rfl, ?_⟩) hHeld ?_ ?_; rotate_left; rintro w' ⟨s0, s1, s2, s3⟩; go_simp; with_reducible rfl; rotate_left; simp only [pS]; rfl
        refine Q26 (i := 3) (N := some 86) (v := ?_) (a' := ?_) #[tt, tt, tt, tt, ff, ff, ff, ff, ff, ff, ff, ff, ff, ff, ff, ff, ff] rfl rfl (by kernel_rfl) (fun _ _ _ h => h) (Or.inl ⟨by rfl, ?_⟩) ?_ ?_; rotate_left; intro w'; go_simp; with_reducible rfl; rotate_left; simp only [pS]; rfl
        refine Q26 (i := 4) (N := some 87) (v := ?_) (a' := ?_) #[tt, tt, tt, tt, tt, ff, ff, ff, ff, ff, ff, ff, ff, ff, ff, ff, ff] rfl rfl (by kernel_rfl) (fun _ _ _ h => h) (Or.inl ⟨by rfl, ?_⟩) ?_ ?_; rotate_left; intro w'; go_simp; with_reducible rfl; rotate_left; simp only [pS]; rfl
        refine Q26 (i := 5) (N := some 88) (v := ?_) (a' := ?_) #[tt, tt, tt, tt, tt, tt, ff, ff, ff, ff, ff, ff, ff, ff, ff, ff, ff] rfl rfl (by kernel_rfl) (fun _ _ _ h => h) (Or.inl ⟨by rfl, ?_⟩) ?_ ?_; rotate_left; intro w'; go_simp; with_reducible rfl; rotate_left; simp only [pS]; rfl
        refine take_ (i := 6) (N := some 89) (v := ?_) (a' := ?_) #[tt, tt, tt, tt, tt, tt, tt, ff, ff, ff, ff, ff, ff, ff, ff, ff, ff] rfl rfl (by kernel_rfl) (fun _ _ _ h => h) (Or.inl ⟨by rfl, ?_⟩) hHeld ?_ ?_; rotate_left; rintro w' ⟨s0, s1, s2, s3⟩; go_simp; with_reducible rfl; rotate_left; simp only [pS]; rfl
        refine Q26 (i := 7) (N := some 90) (v := ?_) (a' := ?_) #[tt, tt, tt, tt, tt, tt, tt, tt, ff, ff, ff, ff, ff, ff, ff, ff, ff] rfl rfl (by kernel_rfl) (fun _ _ _ h => h) (Or.inl ⟨by rfl, ?_⟩) ?_ ?_; rotate_left; intro w'; go_simp; with_reducible rfl; rotate_left; simp only [pS]; rfl
        refine Q26 (i := 10) (N := some 93) (v := ?_) (a' := ?_) #[tt, tt, tt, tt, tt, tt, tt, tt, ff, ff, tt, ff, ff, ff, ff, ff, ff] rfl rfl (by kernel_rfl) (fun _ _ _ h => h) (Or.inl ⟨by rfl, ?_⟩) ?_ ?_; rotate_left; intro w'; go_simp; with_reducible rfl; rotate_left; simp only [pS]; rfl
        refine Q26 (i := 11) (N := some 94) (v := ?_) (a' := ?_) #[tt, tt, tt, tt, tt, tt, tt, tt, ff, ff, tt, tt, ff, ff, ff, ff, ff] rfl rfl (by kernel_rfl) (fun _ _ _ h => h) (Or.inl ⟨by rfl, ?_⟩) ?_ ?_; rotate_left; intro w'; go_simp; with_reducible rfl; rotate_left; simp only [pS]; rfl
        refine Q26 (i := 12) (N := some 95) (v := ?_) (a' := ?_) #[tt, tt, tt, tt, tt, tt, tt, tt, ff, ff, tt, tt, tt, ff, ff, ff, ff] rfl rfl (by kernel_rfl) (fun _ _ _ h => h) (Or.inl ⟨by rfl, ?_⟩) ?_ ?_; rotate_left; intro w'; go_simp; with_reducible rfl; rotate_left; simp only [pS]; rfl
        refine take_ (i := 13) (N := some 96) (v := ?_) (a' := ?_) #[tt, tt, tt, tt, tt, tt, tt, tt, ff, ff, tt, tt, tt, tt, ff, ff, ff] rfl rfl (by kernel_rfl) (fun _ _ _ h => h) (Or.inl ⟨by rfl, ?_⟩) hHeld ?_ ?_; rotate_left; rintro w' ⟨s0, s1, s2, s3⟩; go_simp; with_reducible rfl; rotate_left; simp only [pS]; rfl
        refine one_ (i := 8) (N := some 91) #[tt, tt, tt, tt, tt, tt, tt, tt, tt, ff, tt, tt, tt, tt, ff, ff, ff] rfl rfl (by kernel_rfl) (by decide) (fun K hK => ?_)
        refine goes_ Try.func46 (by kernel_rfl) rfl #[.agg #[.string (txB a), .int .i64 a.top], .bool (a.top == 4)] (by rfl) rfl rfl (by (try simp only [List.map_toArray, List.map_cons, List.map_nil]); first | done | rfl) ?_
        refine (in_any (txB a) a.top (a.top == 4) _ hta).mono ?_
        rintro e w7 ⟨rfl, hb⟩
        have hS := (show (fun w' => w'.cell? ⟨gB, r.length * 2, none⟩ = some (.string (txB a)) ∧ w'.cell? ⟨gB, r.length * 2 + 1, none⟩ = some (.int .i64 a.top) ∧ w'.cell? ⟨gB, r.length * 2 + 2, none⟩ = some (.string (txB b)) ∧ w'.cell? ⟨gB, r.length * 2 + 3, none⟩ = some (.int .i64 b.top)) w7 from ⟨(hb.cell (p := ⟨gB, _, none⟩) (by have := HB6.out.size; have := HGV.out; dsimp only; omega)).trans hHeld.1, (hb.cell (p := ⟨gB, _, none⟩) (by have := HB6.out.size; have := HGV.out; dsimp only; omega)).trans hHeld.2.1, (hb.cell (p := ⟨gB, _, none⟩) (by have := HB6.out.size; have := HGV.out; dsimp only; omega)).trans hHeld.2.2.1, (hb.cell (p := ⟨gB, _, none⟩) (by have := HB6.out.size; have := HGV.out; dsimp only; omega)).trans hHeld.2.2.2⟩)
        have hx := hb.block _ (Fr.heap_lt' HX6.out) |>.trans HX6.out
        have HX6' := Lib.hid hx
        have HB6' := Lib.hid (HB6.out.trans (hb.mono HB6.out.size))
        clear hb hx HX6 HB6 hHeld
        rename Hid (w7.heap[wo.heap.size + 1]? = _) => HX6
        rename Hid (Below V.heap.size V w7) => HB6
        skip
        refine ⟨_, rfl, ?_⟩
        refine hK.out _ _ hS (fun hHeld => ?_)
        clear hK K
        refine norm_ (a' := ?_) ?_ ?_; rotate_left; show Act.put _ (some 91) _ = _; simp only [pS]; rfl
        refine Q26 (i := 9) (N := some 92) (v := ?_) (a' := ?_) #[tt, tt, tt, tt, tt, tt, tt, tt, tt, tt, tt, tt, tt, tt, ff, ff, ff] rfl rfl (by kernel_rfl) (fun _ _ _ h => h) (Or.inl ⟨by rfl, ?_⟩) ?_ ?_; rotate_left; intro w'; go_simp; with_reducible rfl; rotate_left; simp only [pS]; rfl
        refine Q26 (i := 14) (N := some 97) (v := ?_) (a' := ?_) #[tt, tt, tt, tt, tt, tt, tt, tt, tt, tt, tt, tt, tt, tt, tt, ff, ff] rfl rfl (by kernel_rfl) (fun _ _ _ h => h) (Or.inl ⟨by rfl, ?_⟩) ?_ ?_; rotate_left; intro w'; go_simp; with_reducible rfl; rotate_left; simp only [pS]; rfl
        refine Q26 (i := 15) (N := some 98) (v := ?_) (a' := ?_) #[tt, tt, tt, tt, tt, tt, tt, tt, tt, tt, tt, tt, tt, tt, tt, tt, ff] rfl rfl (by kernel_rfl) (fun _ _ _ h => h) (Or.inl ⟨by rfl, ?_⟩) ?_ ?_; rotate_left; intro w'; go_simp; with_reducible rfl; rotate_left; simp only [pS]; rfl
        obtain ⟨px, fx⟩ : w7.cell? ⟨wo.heap.size + 1, 0, none⟩ = some (.string ⟨#[]⟩) ∧ w7.frozen? ⟨wo.heap.size + 1, 0, none⟩ = false := ⟨Q10 HX6.out 0, Q11 HX6.out 0⟩
        refine last_ (i := 16) (N := none) #[tt, tt, tt, tt, tt, tt, tt, tt, tt, tt, tt, tt, tt, tt, tt, tt, tt] rfl rfl (by kernel_rfl) (by decide) (fun K hK => ?_)
        (with_reducible refine skip_ (w1 := ?_) ?hw_ ?hN_ ?_ ?_); (case hw_ => rfl); (case hN_ => rfl)
        rotate_left
        · go_simp
          rfl
        refine hK.out _ _ ?_
        clear hK K
        refine done_ (by kernel_rfl) ?_
        go_upto_region 24 with (fail)
        have hB5 : Below w.heap.size w (w7.setCell ⟨wo.heap.size + 1, 0, none⟩ (.string (brS (a.top == 4) (txB a) ++ (⟨#[124]⟩ : ByteArray) ++ txB b))) := (HB5.out.trans (HB6.out.mono HB5.out.size)).setCell (by have := HH.out.bel.size; dsimp only; omega) _
        have hX5 : (w7.setCell ⟨wo.heap.size + 1, 0, none⟩ (.string (brS (a.top == 4) (txB a) ++ (⟨#[124]⟩ : ByteArray) ++ txB b))).heap[wo.heap.size + 1]? = some (.cells #[.string (txB (RT.alt a b)), .int .i64 4] 105 (0, 0)) := by rw [← alt_txt a b]; exact blk_set HX6.out 0 _
        have hO5 : (w7.setCell ⟨wo.heap.size + 1, 0, none⟩ (.string (brS (a.top == 4) (txB a) ++ (⟨#[124]⟩ : ByteArray) ++ txB b))).ownsRow w.heap.size 105 2 (.slice B (b :: a :: r).length cb) (b :: a :: r).length (hrow (b :: a :: r)) := own_setCell (pw_own_below HO5.out HB6.out) (fun e => by have := own_lt HH.out.own _ e.symm; dsimp only at this; omega) _
        clear px fx hHeld
        generalize w7.setCell ⟨wo.heap.size + 1, 0, none⟩ (.string (brS (a.top == 4) (txB a) ++ (⟨#[124]⟩ : ByteArray) ++ txB b)) = w5 at hB5 hX5 hO5 ⊢
        have hO6 := own_take hO5 (m := r.length) (by simp only [List.length_cons]; omega)
        rw [hrow_cons, hrow_cons, List.append_assoc, List.take_append_of_le_length (by rw [hrow_len]; omega), List.take_of_length_le (by rw [hrow_len]; omega)] at hO6
        have p0 : w5.cell? ⟨wo.heap.size + 1, 0, none⟩ = some (.string (txB (RT.alt a b))) := Q10 hX5 0
        have p1 : w5.cell? ⟨wo.heap.size + 1, 1, none⟩ = some (.int .i64 4) := Q10 hX5 1
        have HX5 := Lib.hid hX5; have HO6 := Lib.hid hO6; have HB5 := Lib.hid hB5
        have HRL := Lib.hid (show r.length ≤ 4096 by omega)
        have HNE := Lib.hid (show some (wo.heap.size + 1) ≠ (Value.slice B r.length cb).ownBlock from fun e => by have := own_lt (own_take HH.out.own (m := r.length) (by simp only [List.length_cons]; omega)) _ e.symm; omega)
        clear hX5 hO5 hO6 hB5
        by_cases hbig : (RT.alt a b).txt.length > 65536
        · have hbd : decide (((txB (RT.alt a b)).size : Int) > 65536) = true := by rw [txB_size]; simp; omega
          have HP5 := Lib.hid (HPL.out (RT.alt a b) rfl hbig)
          clear hbig
          go_wp2
          go_ret2
          exact ⟨by rw [HP5.out]; rfl, HB5.out⟩
        · have hbd : decide (((txB (RT.alt a b)).size : Int) > 65536) = false := by rw [txB_size]; simp; omega
          have HS5 := Lib.hid hbig
          clear hbig
          obtain ⟨i0, hi, hz0, hz1, hz2⟩ := info_parts info105'
          have HI0 := Lib.hid hi; have HZ0 := Lib.hid hz0; have HZ1 := Lib.hid hz1; have HZ2 := Lib.hid hz2
          clear hi hz0 hz1 hz2
          go_wp2_with fail
          go_region_held3 (fun w' => (w'.cell? ⟨wo.heap.size + 1, 0, none⟩ = some (.string (txB (RT.alt a b))) ∧ w'.cell? ⟨wo.heap.size + 1, 1, none⟩ = some (.int .i64 4)))
            (first | go_keep | skip)
            (first | (rw [show (w5.alloc (.cells #[.string (txB (RT.alt a b)), .int .i64 4] 105)).drew = w5.drew.alloc (.cells #[.string (txB (RT.alt a b)), .int .i64 4] 105) from rfl]; refine step_append_cells (w0 := w) (W := w5.drew) w.heap.size (by rfl) _ _ 102 105 _ 2 24 rfl Try.underlying102 info105' rfl (by decide) (by decide) (.slice B r.length cb) r.length (hrow r) [.string (txB (RT.alt a b)), .int .i64 4] rfl rfl rfl (one_hv (RT.alt a b)) (Fr.own_move HO6.out fun _ _ => rfl) (below_drew HB5.out) HB5.out.size (by have := HRL.out; omega) ?_; intro v1 w6 ho1 hb1 hg1 hat1; obtain ⟨A5, c5, rfl⟩ := own_slice ho1; have hx1 := blk_grown (Q17 HX5.out) hg1 HNE.out; obtain ⟨y0, y1⟩ : w6.cell? ⟨wo.heap.size + 1, 0, none⟩ = some (.string (txB (RT.alt a b))) ∧ w6.cell? ⟨wo.heap.size + 1, 1, none⟩ = some (.int .i64 4) := ⟨Q10 hx1 0, Q10 hx1 1⟩; have HO7 := Lib.hid ho1; have HB7 := Lib.hid hb1; clear ho1 hb1 hg1 hat1 hx1))
          go_wp2
          go_roundw
          case rel => exact ⟨k + 1, (RT.alt a b) :: r, A5, c5, by omega, by go_num, rfl, HRUN.out, (fun a ha => (List.mem_cons.1 ha).elim (fun e => by rw [e]; exact Nat.le_of_not_gt HS5.out) (fun h => HH.out.txt a (by simp [h]))), by rw [hrow_cons]; exact HO7.out, HB7.out⟩
          case measure => simp [intOf]; omega
    · obtain rfl : k = p.length := by omega
      have hrun := HH.out.run
      rw [List.take_length, HT.out] at hrun
      obtain rfl := Option.some.inj hrun
      obtain ⟨gB, hBe, hgl, c0, c1⟩ := cells_half HH.out.own (j := 0) (by simp)
      subst hBe
      have c2 : wo.cell? ⟨gB, 0, none⟩ = some (.string (txB t)) := c0.trans rfl
      have HP := Lib.hid (prt_ok H0.out HT.out)
      have HS := Lib.hid (HH.out.txt t (by simp))
      have hdd : decide ((p.length : Int) < (p.length : Int)) = false := by simp
      clear c0 c1 hst hcb hlt hrun
      go_wp2
      go_ret2
      refine ⟨?_, HH.out.bel⟩
      rw [HP.out, if_neg (by have := HS.out; omega)]; rfl
theorem print_c (A : Option Addr) (c : Nat) (p : List S45) (w : World) (hr : Kd.C k45 w A p.length p) (hc : p.length ≤ c) (hok : ∀ n ∈ p, okC n.f1) :
    Calls Try.prog 17 #[.slice A p.length c] w fun e w' => e = .returned (.tuple #[.string (prt p).1, .int .i64 (prt p).2]) ∧ Below w.heap.size w w' := by
  by_cases h0 : chk p = 0
  · exact print_good A c p w hr hc hok h0
  · have HCK := Lib.hid (Dp.check_c A c p w hr hc)
    have HP := Lib.hid (prt_bad h0)
    have hne : (chk p != 0) = true := by simpa using h0
    have hne2 : (chk p == 0) = false := by simpa using h0
    generalize chk p = k at hne hne2 HCK HP
    clear h0 hr
    go_enter Try.func17, Try.ntmps17
    go_wp2_with fail
    refine (HCK.out).mono ?_
    rintro e w1 ⟨rfl, hb1⟩
    have HB1 := Lib.hid hb1
    clear hb1
    go_wp2
    go_ret2
    refine ⟨?_, HB1.out⟩
    rw [HP.out]; rfl
end Go.Proofs.Ytflkgoggnomehaa.Pr

/- The parts of nodes: the law's walk. -/
import Derived.Test.YtodfooniahifeaaApC
set_option linter.unusedVariables false
set_option linter.unusedSimpArgs false
namespace Go.Proofs.Ytodfooniahifeaa.Ap
open Go.RowKit Go.Proofs.YtodfooniahifeaaW.PrintWords Go.Proofs.YtodfooniahifeaaW.PrintLast Go.Proofs.YtodfooniahifeaaW.PrintMore Go.Proofs.Ytodfooniahifeaa.PActionParts
def rv3 (a b c : Value) (j : Nat) : Value := match j with | 0 => a | 1 => b | _ => c
def rn3 (a b c : Nat) (j : Nat) : Nat := match j with | 0 => a | 1 => b | _ => c
theorem own_lower {W : World} {base base' n : Nat} {e : TypeId} {size : Nat} {v : Value} {xs : List Value} (h : W.ownsRow base e size v n xs) (hb : base' ≤ base) : W.ownsRow base' e size v n xs := by
  refine ⟨h.1, ?_⟩
  rcases h.2 with q | ⟨g, cap, cur, hv, hg, r⟩
  · exact .inl q
  · exact .inr ⟨g, cap, cur, hv, by omega, r⟩
theorem ahead3 {U : World} {B m1 m2 : Nat} {a b c : Value} {n1 n2 n3 : Nat} {x1 x2 x3 : List Value} (ha : U.ownsRow B 3 1 a n1 x1) (hb : U.ownsRow m1 3 1 b n2 x2) (hc : U.ownsRow m2 3 1 c n3 x3)
    (l1 : ∀ g, a.ownBlock = some g → g < m1) (l2 : ∀ g, b.ownBlock = some g → g < m2) (hB : B ≤ m1) (h12 : m1 ≤ m2) (hU : B ≤ U.heap.size) (k1 : n1 ≤ 1048576) (k2 : n2 ≤ 1048576) (k3 : n3 ≤ 1048576) :
    Fr.Ahead (U.alloc (.cells #[a, b, c] 24)) U.heap.size 3 B #[a, b, c] (rv3 a b c) (rn3 n1 n2 n3) := by
  refine ⟨heap_alloc_new U _, fun j hj => ?_, by omega, fun j hj => ?_, fun j hj => ?_, ?_, by simp; omega⟩
  · match j, hj with
    | 0, _ => rfl
    | 1, _ => rfl
    | 2, _ => rfl
  · match j, hj with
    | 0, _ => exact ⟨x1, ha.alloc _⟩
    | 1, _ => exact ⟨x2, (own_lower hb hB).alloc _⟩
    | 2, _ => exact ⟨x3, (own_lower hc (Nat.le_trans hB h12)).alloc _⟩
  · match j, hj with
    | 0, _ => show n1 ≤ _; omega
    | 1, _ => show n2 ≤ _; omega
    | 2, _ => show n3 ≤ _; omega
  · intro i j g hi hj hij h1 h2
    have q1 : ∀ g, b.ownBlock = some g → m1 ≤ g := fun g hg => ((Fr.told_own hb).lt hg).1
    have q2 : ∀ g, c.ownBlock = some g → m2 ≤ g := fun g hg => ((Fr.told_own hc).lt hg).1
    have p12 : a.ownBlock = some g → b.ownBlock = some g → False := fun u v => by have := l1 g u; have := q1 g v; omega
    have p13 : a.ownBlock = some g → c.ownBlock = some g → False := fun u v => by have := l1 g u; have := q2 g v; omega
    have p23 : b.ownBlock = some g → c.ownBlock = some g → False := fun u v => by have := l2 g u; have := q2 g v; omega
    match i, j, hi, hj with
    | 0, 0, _, _ => exact hij rfl
    | 0, 1, _, _ => exact p12 h1 h2
    | 0, 2, _, _ => exact p13 h1 h2
    | 1, 0, _, _ => exact p12 h2 h1
    | 1, 1, _, _ => exact hij rfl
    | 1, 2, _, _ => exact p23 h1 h2
    | 2, 0, _, _ => exact p13 h2 h1
    | 2, 1, _, _ => exact p23 h2 h1
    | 2, 2, _, _ => exact hij rfl
theorem bel_then {U U2 U3 : World} (h : Below U.heap.size U U2) (k : Below U2.heap.size U2 U3) : Below U.heap.size U U3 := h.trans (k.mono h.size)
theorem rd_below {U U2 : World} {base n c : Nat} {A : Option Addr} {xs : List Int} (h : Kd.R (Kd.int .i64) 3 U base (fun _ => True) (.slice A n c) xs) (hb : Below U.heap.size U U2) : n = xs.length ∧ n ≤ c ∧ Kd.C (Kd.int .i64) U2 A xs.length xs := Kd.R_reads' (Kd.R_below h hb)
theorem one_read {w : World} {g : Nat} {t : TypeId} {fr : Nat × Nat} {x : Int} (hg : w.heap[g]? = some (.cells #[.int .i64 x] t fr)) : Kd.C (Kd.int .i64) w (some ⟨g, 0, none⟩) [x].length [x] := by
  refine ⟨rfl, by simp, fun _ => ⟨⟨g, 0, none⟩, rfl, fun j p hp => ⟨[.int .i64 p], rfl, rfl, fun i u hu => ?_⟩⟩⟩
  have hj : j = 0 := by
    rcases Nat.lt_or_ge j 1 with q | q
    · omega
    · rw [List.getElem?_eq_none (by simpa using q)] at hp; cases hp
  have hi : i = 0 := by
    rcases Nat.lt_or_ge i 1 with q | q
    · omega
    · rw [List.getElem?_eq_none (by simpa using q)] at hu; cases hu
  subst hj hi
  have hx : x = p := by simpa using hp
  have hu' : u = .int .i64 p := by simpa using hu.symm
  subst hx hu'
  show w.cell? ⟨g, 0, none⟩ = _
  rw [cell_of_row w g 0 _ t fr hg]
  rfl
set_option maxRecDepth 100000 in
set_option maxHeartbeats 2000000 in
theorem law_w (A : Option Addr) (c : Nat) (l : List S33) (i k : Int) (w : World) (hr : Kd.C k33 w A l.length l) (hc : l.length ≤ c) :
    Calls Try.prog 3 #[.slice A l.length c, .int .i64 i, .int .i64 k] w fun e w' => e = .returned (.bool true) ∧ Below w.heap.size w w' := by
  have HR := Lib.hid hr; clear hr
  go_enter Try.func3, Try.ntmps3
  by_cases hbig : l.length ≤ 1048576
  · have hd : decide ((l.length : Int) > 1048576) = false := by simp; omega
    have ni := Po_len hbig i
    have nk := Po_len hbig k
    go_wp2_with fail
    refine (lend_c A c l _ HR.out hc hbig).mono ?_
    rintro e U0 ⟨g, c0, rfl, hc0, ho, hb0⟩
    have O0 := Lib.hid ho; have K0 := Lib.hid hb0; clear ho hb0
    have D0 : ∀ U : World, Below U0.heap.size U0 U → Kd.C k33 U (some ⟨g, 0, none⟩) l.length l := fun U hb => Kd.C_below (row_owned l (flat [mk77, mo77]) _ O0.out (by unfold flat; simp) (by omega) (by omega)) hb
    have hlc : l.length ≤ c0 := by omega
    have HD0 := Lib.hid D0; clear D0
    go_wp2_with fail
    refine (parts_c _ c0 l i _ (HD0.out _ (Below.refl _ _)) hlc hbig).mono ?_
    rintro e U1 ⟨A1, c1, rfl, hR1, hb1⟩
    have R1 := Lib.hid hR1; have K1 := Lib.hid hb1; clear hR1 hb1
    go_wp2_with fail
    refine (parts_c _ c0 l k _ (HD0.out _ K1.out) hlc hbig).mono ?_
    rintro e U2 ⟨A2, c2, rfl, hR2, hb2⟩
    have R2 := Lib.hid hR2; have K2 := Lib.hid (bel_then K1.out hb2); have J2 := Lib.hid hb2; clear hR2 hb2
    go_wp2_with fail
    refine (parts_c _ c0 l i _ (HD0.out _ K2.out) hlc hbig).mono ?_
    rintro e U3 ⟨A3, c3, rfl, hR3, hb3⟩
    have R3 := Lib.hid hR3; have K3 := Lib.hid (bel_then K2.out hb3); have J3 := Lib.hid hb3; clear hR3 hb3
    go_wp2_with fail
    have HRw : ∀ U : World, Below U0.heap.size U0 U → Kd.C k33 U A l.length l := fun U hb => Kd.C_below (Kd.C_below HR.out K0.out) hb
    have HRW := Lib.hid HRw; clear HRw
    refine (refParts_c A c l i _ (HRW.out _ K3.out) hc hbig).mono ?_
    rintro e U4 ⟨A4, c4, rfl, hR4, hb4⟩
    have R4 := Lib.hid hR4; have K4 := Lib.hid (bel_then K3.out hb4); have J4 := Lib.hid hb4; clear hR4 hb4
    go_wp2_with fail
    have r1 := rd_below R1.out (bel_then J2.out (bel_then J3.out J4.out))
    have r4 := rd_below R4.out (Below.refl _ _)
    refine (ints_c A1 c1 A4 c4 (Po l i) ni _ r1.2.2 r1.2.1 r4.2.2 r4.2.1).mono ?_
    rintro e U5 ⟨rfl, hb5⟩
    have J5 := Lib.hid hb5; have K5 := Lib.hid (bel_then K4.out hb5); clear hb5 r1 r4
    go_wp2_with fail
    refine (refParts_c A c l k _ (HRW.out _ K5.out) hc hbig).mono ?_
    rintro e U6 ⟨A6, c6, rfl, hR6, hb6⟩
    have R6 := Lib.hid hR6; have K6 := Lib.hid (bel_then K5.out hb6); have J6 := Lib.hid hb6; clear hR6 hb6
    have J36 := Lib.hid (bel_then J4.out (bel_then J5.out J6.out))
    have J26 := Lib.hid (bel_then J3.out J36.out)
    have J16 := Lib.hid (bel_then J2.out J26.out)
    have J46 := Lib.hid (bel_then J5.out J6.out)
    go_wp2_with fail
    have r2 := rd_below R2.out J26.out
    have r6 := rd_below R6.out (Below.refl _ _)
    refine (ints_c A2 c2 A6 c6 (Po l k) nk _ r2.2.2 r2.2.1 r6.2.2 r6.2.1).mono ?_
    rintro e U7 ⟨rfl, hb7⟩
    have J7 := Lib.hid hb7; have K7 := Lib.hid (bel_then K6.out hb7); clear hb7 r2 r6
    go_wp2_with fail
    have r3 := rd_below R3.out (bel_then J36.out J7.out)
    have r4 := rd_below R4.out (bel_then J46.out J7.out)
    refine (ints_c A3 c3 A4 c4 (Po l i) ni _ r3.2.2 r3.2.1 r4.2.2 r4.2.1).mono ?_
    rintro e U8 ⟨rfl, hb8⟩
    have J8 := Lib.hid (bel_then J7.out hb8); have K8 := Lib.hid (bel_then K7.out hb8); clear hb8 r3 r4
    go_wp2_with fail
    refine (keptActs_c A c l g c0 _ _ (HRW.out _ K8.out) hc hbig (Fr.own_move O0.out fun b hb => K8.out.block b ((Fr.told_own O0.out).lt hb).2.1) hc0).mono ?_
    rintro e U9 ⟨rfl, hb9⟩
    have J9 := Lib.hid (bel_then J8.out hb9); have K9 := Lib.hid (bel_then K8.out hb9); clear hb9
    go_wp2_with fail
    obtain ⟨x1, o1⟩ := Kd.R_own R1.out
    obtain ⟨x2, o2⟩ := Kd.R_own R2.out
    obtain ⟨x3, o3⟩ := Kd.R_own R3.out
    have l1 : ∀ b, (Value.slice A1 (Po l i).length c1).ownBlock = some b → b < U1.heap.size := fun b hb => ((Fr.told_own o1).lt hb).2.1
    have l2 : ∀ b, (Value.slice A2 (Po l k).length c2).ownBlock = some b → b < U2.heap.size := fun b hb => ((Fr.told_own o2).lt hb).2.1
    have o1' := Fr.own_move o1 fun b hb => (bel_then J16.out J9.out).block b (l1 b hb)
    have o2' := Fr.own_move o2 fun b hb => (bel_then J26.out J9.out).block b (l2 b hb)
    have o3' := Fr.own_move o3 fun b hb => (bel_then J36.out J9.out).block b ((Fr.told_own o3).lt hb).2.1
    have z0 := K0.out.size
    have z1 := K1.out.size
    have z2 := J2.out.size
    have z9 := K9.out.size
    have B1 := Lib.hid fun b hb => ((Fr.told_own o1).lt (g := b) hb).1
    have B2 := Lib.hid fun b hb => ((Fr.told_own o2).lt (g := b) hb).1
    have B3 := Lib.hid fun b hb => ((Fr.told_own o3).lt (g := b) hb).1
    refine (Fr.freeInts_c _ U9.heap.size 3 3 U0.heap.size _ (rv3 (.slice A1 (Po l i).length c1) (.slice A2 (Po l k).length c2) (.slice A3 (Po l i).length c3)) (rn3 (Po l i).length (Po l k).length (Po l i).length)
      (ahead3 o1' o2' o3' l1 l2 z1 z2 z9 ni nk ni)).mono ?_
    rintro e U10 ⟨rfl, hoth⟩
    have K10 := Lib.hid (show Below w.heap.size w U10 from ((K0.out.trans (K9.out.mono z0)).alloc (by omega) _).trans ((hoth.to (B := U0.heap.size) (fun b hb => by
      obtain ⟨j, hj, hb⟩ := hb
      match j, hj, hb with
      | 0, _, hb => exact B1.out b hb
      | 1, _, hb => have := B2.out b hb; omega
      | 2, _, hb => have := B3.out b hb; omega) (by simp; omega)).mono z0))
    clear hoth o1 o2 o3 l1 l2 o1' o2' o3' R1 R2 R3 R4 R6 J2 J3 J4 J5 J6 J7 J8 J9 J16 J26 J36 J46 K1 K2 K3 K4 K5 K6 K7 K8 K9 B1 B2 B3
    go_wp2_with fail
    have hbox := heap_alloc_new U10 (.cells #[.int .i64 4, .int .i64 0, .string ⟨#[]⟩, .string ⟨#[]⟩, .int .i64 0, .int .i64 0, .int .i64 7, .int .i64 1, .string ⟨#[105, 110, 116]⟩, .string ⟨#[]⟩, .int .i64 0, .int .i64 0] 33 (0, 0))
    refine (parts_c (some ⟨U10.heap.size, 0, none⟩) 2 lastActs 1 _ (row_read lastActs [] hbox rfl (by decide)) (by decide) (by decide)).mono ?_
    unfold PartsC
    rw [last_po]
    rintro e U11 ⟨A7, c7, rfl, hR7, hb7⟩
    have hs7 := hb7.size
    have K11 := Lib.hid ((K10.out.alloc K10.out.size _).trans (hb7.mono (by have := K10.out.size; simp; omega)))
    have R7 := Lib.hid hR7; clear hR7 hb7 hbox
    go_wp2_with fail
    have r7 := rd_below R7.out ((Below.refl _ _).alloc (Nat.le_refl _) (.cells #[.int .i64 0] 3))
    refine (ints_c A7 c7 (some ⟨U11.heap.size, 0, none⟩) 1 [0] (by decide) _ r7.2.2 r7.2.1 (one_read (heap_alloc_new U11 (.cells #[.int .i64 0] 3 (0, 0)))) (by decide)).mono ?_
    rintro e U12 ⟨rfl, hb12⟩
    have K12 := Lib.hid ((K11.out.alloc K11.out.size _).trans (hb12.mono (by have := K11.out.size; simp; omega)))
    clear hb12 r7
    go_wp2
    go_ret
    exact ⟨rfl, K12.out⟩
  · have hd : decide ((l.length : Int) > 1048576) = true := by simp; omega
    go_wp2
    go_ret
    exact ⟨rfl, Below.refl _ _⟩
end Go.Proofs.Ytodfooniahifeaa.Ap

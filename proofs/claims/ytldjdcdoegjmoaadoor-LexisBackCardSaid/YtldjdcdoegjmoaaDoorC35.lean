import Derived.ChangeArms
import Derived.ChangeOld
import Derived.Laws.IdiomArrays
import Derived.OpenShut
import Derived.ProofKit
import Derived.SizedLaws
import Derived.Test.YtldjdcdoegjmoaaDoorRows
import Derived.WalkKit
import Derived.WideShapes
import Derived.Test.YtldjdcdoegjmoaaDoorC7
import Derived.Test.YtldjdcdoegjmoaaDoorC32
import Derived.Test.YtldjdcdoegjmoaaDoorC34
set_option linter.unusedVariables false
set_option linter.unusedSimpArgs false
namespace Go.Proofs.YtldjdcdoegjmoaaDoor.P
open Go.RowKit Go.Proofs.YtldjdcdoegjmoaaDoor Go.Proofs.YtldjdcdoegjmoaaDoor.Pure Go.Proofs.YtldjdcdoegjmoaaDoor.Wr Go.Proofs.YtldjdcdoegjmoaaDoorW.PrintWords Go.Proofs.YtldjdcdoegjmoaaDoorW.PrintLast
/-- Rounds enough for every token's text. -/
def rounds : Nat := 66000
theorem rounds_ge : 65536 + 400 ≤ rounds := by decide
theorem rd_tv (L : List TV) (i : Nat) (t : TV) (h : L[i]? = some t) : Q17 (L.map tvS) (i : Int) = tvS t := by
  unfold Q17
  rw [Int.toNat_natCast, List.getD_eq_getElem?_getD, List.getElem?_map, h]
  rfl
/-- One round of the comparison. -/
theorem back_l0 {l : List S26} {r : ByteArray} {L : List TV} (hl : l.length ≤ 300000) (hn : nr l ≤ l.length) (hL : L.length = nr l + 1) (hz : r.size ≤ 65536)
    (hR : ∀ i, i < nr l → ∃ a e : Nat, L[i]? = some (tvOf a e (at_ l i)) ∧ a ≤ e ∧ e ≤ r.size ∧ r.extract a e = textE (at_ l i))
    (hok : ∀ x ∈ l, OkT x) (hr : ∀ x ∈ l, rightB x = true ∧ x.f3.size ≤ 65536) :
    ∀ (d i k : Nat), nr l - i = d → i ≤ nr l → rounds + d ≤ k → dowellaw04_LexisBack.l0 k l r (L.map tvS) (nr l : Int) (i : Int) = some true
  | 0, i, k, hd, hi, hk => by
    obtain ⟨k, rfl⟩ : ∃ m, k = m + 1 := ⟨k - 1, by have := rounds_ge; omega⟩
    rw [dowellaw04_LexisBack.l0, if_neg (by omega)]
  | d + 1, i, k, hd, hi, hk => by
    obtain ⟨k, rfl⟩ : ∃ m, k = m + 1 := ⟨k - 1, by have := rounds_ge; omega⟩
    obtain ⟨a, e, h1, h2, h3, h4⟩ := hR i (by omega)
    have hm : at_ l i ∈ l := at_mem (by omega)
    have hS := spell_k (hok _ hm) (hr _ hm).1 (hr _ hm).2 (by rw [← h4, ByteArray.size_extract]; omega) (k := k) (by have := (hr _ hm).2; have := rounds_ge; omega)
    have hx : Q17 (L.map tvS) (i : Int) = tvS (tvOf a e (at_ l i)) := rd_tv L i _ h1
    have hy : Q17 l (i : Int) = at_ l i := by unfold at_; with_reducible rfl
    have c1 : (i : Int) < ((nr l : Nat) : Int) := by omega
    have c2 : (0 : Int) ≤ (i : Int) := by omega
    have c3 : (i : Int) < ((L.map tvS).length : Int) := by rw [List.length_map]; omega
    have c4 : (i : Int) < (l.length : Int) := by omega
    have c5 : (0 : Int) ≤ (a : Int) := by omega
    have c6 : (a : Int) ≤ (e : Int) := by omega
    have c7 : (e : Int) ≤ (r.size : Int) := by omega
    have ih := back_l0 hl hn hL hz hR hok hr d (i + 1) k (by omega) (by omega) (by omega)
    have w1 : wrap64 ((i : Int) + 1) = ((i + 1 : Nat) : Int) := by clear ih; unfold wrap64; omega
    rw [dowellaw04_LexisBack.l0, if_pos c1, if_pos c2, if_pos c3, hx, hy]
    generalize at_ l i = x at *
    simp only [tvS, tvOf, dowellaw04_bare.f, Option.bind_some, c4, if_true, beq_self_eq_true, Bool.not_true, Bool.or_self, Bool.false_eq_true, if_false, hS, c5, c6, c7, Int.toNat_natCast, h4, w1]
    exact ih
theorem back_law (l : List S26) (hok : ∀ x ∈ l, OkT x) : ∃ k, dowellaw04_LexisBack.f k l = some true := by
  refine ⟨l.length + (rounds + 10), ?_⟩
  unfold dowellaw04_LexisBack.f
  rw [show dowellaw04_works.f (l.length + (rounds + 10)) = some true from rfl, Option.bind_some, if_pos rfl]
  by_cases hbig : (l.length : Int) > 262144
  · rw [if_pos hbig]
  · rw [if_neg hbig, Option.bind_some, if_pos (by simp; omega), List.nil_append]
    have hW : lexis_Write.f l = some (wrOut l) := by
      unfold lexis_Write.f writeF
      rw [if_pos ⟨by omega, fun x hx => (okD_iff x).2 (hok x hx)⟩]
    rw [hW, Option.bind_some]
    by_cases h0 : (wrOut l).2 = 0
    · rw [if_pos h0]
      obtain ⟨r, hr⟩ : ∃ r, wrOut l = (r, 0) := ⟨(wrOut l).1, Prod.ext rfl h0⟩
      rw [hr]
      obtain ⟨hz, hRd, hright, hE⟩ := write_reads hr (fun x hx h1 h2 => tokOk_all (hok x hx) h1 h2)
      obtain ⟨n1, n2, n3⟩ := Rd_at l _ hRd
      have hT : lexis_Tokens.f r = some ((allE r 0).map tvS, 0, 0) := by
        unfold lexis_Tokens.f
        rw [if_pos (by unfold bnd; omega), toksOut_ok (Rd_codes l _ hRd)]
      dsimp only
      rw [hT, Option.bind_some]
      dsimp only
      generalize allE r 0 = L at *
      have hnl : nr l ≤ l.length := by
        rcases nr_at l hE with ⟨rfl, h2⟩ | ⟨h1, ⟨_, h2⟩ | ⟨_, h2⟩⟩
        · rw [h2]; simp
        · omega
        · omega
      have hlen : ((L.map tvS).length : Int) = ((nr l : Nat) : Int) + 1 := by rw [List.length_map]; omega
      have w1 : wrap64 (((nr l : Nat) : Int) + 1 - 1) = ((nr l : Nat) : Int) := by unfold wrap64; omega
      have w2 : wrap64 (((nr l : Nat) : Int) + 1) = ((nr l : Nat) : Int) + 1 := by unfold wrap64; omega
      rw [if_neg (by simp), hlen, if_neg (by omega), w1, if_pos (by omega), if_pos (by omega), rd_tv L _ _ n2]
      rw [show ((tvS (plainV 0 (r.size : Int) (r.size : Int))).f0 != 0) = false from rfl]
      have hfin := back_l0 (by omega) hnl n1 hz n3 hok hright (nr l) 0 (l.length + (rounds + 7)) (by omega) (by omega) (by omega)
      have hj2 : dowellaw04_LexisBack.j2 (l.length + (rounds + 8)) l r (L.map tvS) ((nr l : Nat) : Int) = some true := by
        rw [show l.length + (rounds + 8) = (l.length + (rounds + 7)) + 1 by omega, dowellaw04_LexisBack.j2, hlen, w2, if_pos rfl]
        exact hfin
      rw [show l.length + (rounds + 10) = (l.length + (rounds + 9)) + 1 by omega, dowellaw04_LexisBack.j0, if_neg (by decide)]
      rcases nr_at l hE with ⟨rfl, h2⟩ | ⟨h1, h2⟩
      · rw [if_neg (by simp), show ([] : List S26).length + (rounds + 9) = (([] : List S26).length + (rounds + 8)) + 1 by omega, dowellaw04_LexisBack.j1, if_neg (by decide)]
        exact hj2
      · have w3 : wrap64 ((l.length : Int) - 1) = ((l.length - 1 : Nat) : Int) := by unfold wrap64; omega
        have hat : Q17 l ((l.length - 1 : Nat) : Int) = at_ l (l.length - 1) := rfl
        rw [if_pos (by omega), w3, if_pos (by omega), if_pos (by omega), hat, show l.length + (rounds + 9) = (l.length + (rounds + 8)) + 1 by omega, dowellaw04_LexisBack.j1, w3]
        rcases h2 with ⟨h3, h4⟩ | ⟨h3, h4⟩
        · rw [if_pos (by rw [h3]; rfl), show ((l.length - 1 : Nat) : Int) = ((nr l : Nat) : Int) by omega]
          exact hj2
        · rw [if_neg (by simpa using h3), ← h4]
          rw [h4]
          rw [h4] at hj2
          exact hj2
    · rw [if_neg h0]
      have := (wrOut_bad l).resolve_left h0
      rw [this, toList_nil.2 rfl]
      rfl
end Go.Proofs.YtldjdcdoegjmoaaDoor.P
set_option linter.unusedVariables false
set_option linter.unusedSimpArgs false
namespace Go.Proofs.YtldjdcdoegjmoaaDoor
open Go.ChangeShapes Go.WideShapes Go.ChangeAt Go.RowKit
theorem nat_of_u64 {x : Int} (h : (Lit.int .u64 x).wf = true) : ∃ n : Nat, n < w64 ∧ x = (n : Int) := by
  have hmin : IntKind.u64.min = 0 := rfl
  have hmax : IntKind.u64.max = 18446744073709551615 := rfl
  simp only [Lit.wf, Bool.and_eq_true, decide_eq_true_eq, hmin, hmax] at h
  exact ⟨x.toNat, by unfold w64; omega, by omega⟩
theorem cells_u64 : Tryd.prog.cellsOf 22 = 1 := by kernel_rfl
theorem cells_cls : Tryd.prog.cellsOf 24 = 4 := by kernel_rfl
end Go.Proofs.YtldjdcdoegjmoaaDoor
set_option linter.unusedVariables false
set_option linter.unusedSimpArgs false
namespace Go.Proofs.YtldjdcdoegjmoaaDoor
open Go.ChangeShapes Go.WideShapes Go.ChangeAt Go.RowKit
/-- A token of the program's. -/
structure Tk where
  a0 : Int
  a1 : Int
  a2 : Int
  a3 : ByteArray
  a4 : Bool
  c : Cls
  a9 : Int
  a10 : Int
def Tk.cells (p : Tk) : List Value := [.int .i64 p.a0, .int .i64 p.a1, .int .i64 p.a2, .string p.a3, .bool p.a4, .int .u64 p.c.c0, .int .u64 p.c.c1, .int .u64 p.c.c2, .int .u64 p.c.c3, .int .i64 p.a9, .int .i64 p.a10]
abbrev Tk.val (p : Tk) : Value := .agg #[.int .i64 p.a0, .int .i64 p.a1, .int .i64 p.a2, .string p.a3, .bool p.a4, .int .u64 p.c.c0, .int .u64 p.c.c1, .int .u64 p.c.c2, .int .u64 p.c.c3, .int .i64 p.a9, .int .i64 p.a10]
def Tk.ok (p : Tk) : Prop := p.c.ok ∧ p.a3.size ≤ 140737488351232
theorem list11 {α : Type} (l : List α) (h : l.length = 11) : ∃ a b c d e f g i j k m, l = [a, b, c, d, e, f, g, i, j, k, m] := by
  match l, h with
  | [a, b, c, d, e, f, g, i, j, k, m], _ => exact ⟨a, b, c, d, e, f, g, i, j, k, m, rfl⟩
theorem cells_tok : Tryd.prog.cellsOf 26 = 11 := by kernel_rfl
set_option maxRecDepth 100000 in
theorem tok_cells {H : Type} {enc : TypeId × Value → H} {W : World} {base m : Nat} {spare : Nat → Bool} {held : Bool} {cs : List Value} {y : DataW H × List MemPlace} (h : DataW.trod enc Tryd.prog W base spare held m 26 cs = some y)
    (hz : (y.1.weights Tryd.prog 26).all (· ≤ reachBytes) = true) : ∃ p : Tk, cs = p.cells ∧ p.ok := by
  obtain ⟨xs, n, _, rfl, hlen, hl, hf⟩ := DataW.trod_struct Tryd.underlying26 h
  rw [cells_tok] at hlen
  obtain ⟨c0, c1, c2, c3, c4, c5, c6, c7, c8, c9, c10, rfl⟩ := list11 cs hlen
  have k3 : Tryd.prog.cellsOf 3 = 1 := by kernel_rfl
  have k9 : Tryd.prog.cellsOf 9 = 1 := by kernel_rfl
  have k4 : Tryd.prog.cellsOf 4 = 1 := by kernel_rfl
  have g : ∀ i, i < 8 → ∃ z, xs[i]? = some z := fun i hi => ⟨_, List.getElem?_eq_getElem (by rw [hl]; exact hi)⟩
  obtain ⟨z0, e0⟩ := g 0 (by omega)
  obtain ⟨z1, e1⟩ := g 1 (by omega)
  obtain ⟨z2, e2⟩ := g 2 (by omega)
  obtain ⟨z3, e3⟩ := g 3 (by omega)
  obtain ⟨z4, e4⟩ := g 4 (by omega)
  obtain ⟨z5, e5⟩ := g 5 (by omega)
  obtain ⟨z6, e6⟩ := g 6 (by omega)
  obtain ⟨z7, e7⟩ := g 7 (by omega)
  have h0 := (hf 0 _ rfl).trans e0
  have h1 := (hf 1 _ rfl).trans e1
  have h2 := (hf 2 _ rfl).trans e2
  have h3 := (hf 3 _ rfl).trans e3
  have h4 := (hf 4 _ rfl).trans e4
  have h5 := (hf 5 _ rfl).trans e5
  have h6 := (hf 6 _ rfl).trans e6
  have h7 := (hf 7 _ rfl).trans e7
  obtain ⟨x0, q0, _, _⟩ := DataW.trod_int Tryd.underlying3 h0
  obtain ⟨x1, q1, _, _⟩ := DataW.trod_int Tryd.underlying3 h1
  obtain ⟨x2, q2, _, _⟩ := DataW.trod_int Tryd.underlying3 h2
  obtain ⟨x3, q3, r3, _⟩ := DataW.trod_string Tryd.underlying9 h3
  obtain ⟨x4, q4, _⟩ := DataW.trod_bool Tryd.underlying4 h4
  obtain ⟨x6, q6, _, _⟩ := DataW.trod_int Tryd.underlying3 h6
  obtain ⟨x7, q7, _, _⟩ := DataW.trod_int Tryd.underlying3 h7
  simp [k3, k9, k4] at q0 q1 q2 q3 q4 q6 q7
  subst q0 q1 q2 q3 q4 q6 q7
  simp [cells_cls] at h5
  obtain ⟨y0, y1, y2, y3, m, hx, hy0, hy1, hy2, hy3⟩ := trod_array4 Tryd.underlying24 cells_u64 h5
  obtain ⟨u0, f0, _, w0⟩ := DataW.trod_int Tryd.underlying22 hy0
  obtain ⟨u1, f1, _, w1⟩ := DataW.trod_int Tryd.underlying22 hy1
  obtain ⟨u2, f2, _, w2⟩ := DataW.trod_int Tryd.underlying22 hy2
  obtain ⟨u3, f3, _, w3⟩ := DataW.trod_int Tryd.underlying22 hy3
  simp at f0 f1 f2 f3
  subst f0 f1 f2 f3
  obtain ⟨n0, l0, rfl⟩ := nat_of_u64 w0
  obtain ⟨n1, l1, rfl⟩ := nat_of_u64 w1
  obtain ⟨n2, l2, rfl⟩ := nat_of_u64 w2
  obtain ⟨n3, l3, rfl⟩ := nat_of_u64 w3
  refine ⟨⟨x0, x1, x2, x3, x4, ⟨n0, n1, n2, n3⟩, x6, x7⟩, rfl, ⟨⟨l0, l1, l2, l3⟩, ?_⟩⟩
  have hw : (DataW.weightsEach Tryd.prog [3, 3, 3, 9, 4, 24, 3, 3] (xs.map (·.1))).all (· ≤ reachBytes) = true := by
    have q := hz
    simp only [DataW.weights, Tryd.underlying26] at q
    exact q
  have z := sized_string hw (j := 3) (t := 9) rfl (by rw [List.getElem?_map, e3, r3]; rfl)
  rw [Array.length_toList] at z
  exact z
end Go.Proofs.YtldjdcdoegjmoaaDoor
set_option linter.unusedVariables false
set_option linter.unusedSimpArgs false
namespace Go.Proofs.YtldjdcdoegjmoaaDoor
open Go.ChangeShapes Go.WideShapes Go.ChangeAt Go.RowKit Go.Proofs.YtldjdcdoegjmoaaDoorW.PrintWords Go.Proofs.YtldjdcdoegjmoaaDoor.P
theorem add_add (a : Addr) (i j : Nat) : (a.add i).add j = a.add (i + j) := by
  unfold Addr.add
  by_cases h1 : i = 0 <;> by_cases h2 : j = 0 <;> simp [h1, h2, Nat.add_assoc]
def encB (x : S26) : List Value := [.int .i64 x.f0, .int .i64 x.f1, .int .i64 x.f2, .string x.f3, .bool x.f4, .int .u64 x.f5.f0, .int .u64 x.f5.f1, .int .u64 x.f5.f2, .int .u64 x.f5.f3, .int .i64 x.f6, .int .i64 x.f7]
structure TSl where
  A : Option Addr
  c : Nat
  l : List S26
def TSl.ok (w : World) (a : TSl) : Prop := Kd.C k26 w a.A a.l.length a.l ∧ a.l.length ≤ a.c ∧ ∀ x ∈ a.l, Wr.OkT x
def Tk.s (p : Tk) : S26 := ⟨p.a0, p.a1, p.a2, p.a3, p.a4, ⟨p.c.c0, p.c.c1, p.c.c2, p.c.c3⟩, p.a9, p.a10⟩
theorem weights_all {H : Type} {P : Program} {e : TypeId} : ∀ {l : List (DataW H)} {d : DataW H}, d ∈ l → ∀ n ∈ d.weights P e, n ∈ DataW.weightsAll P e l
  | [], _, h, _, _ => by cases h
  | x :: l, d, h, n, hn => by
    rw [DataW.weightsAll]
    rcases List.mem_cons.1 h with rfl | h
    · exact List.mem_append_left _ hn
    · exact List.mem_append_right _ (weights_all h n hn)
set_option maxRecDepth 100000 in
theorem open_toks {H : Type} {enc : TypeId × Value → H} {W : World} {base : Nat} {v : Value} {d : DataW H} {ps : List MemPlace} {ts : List TypeId} {ds : List (DataW H)}
    (hsz : (DataW.weightsEach Tryd.prog ts ds).all (· ≤ reachBytes) = true) {j : Nat} (hts : ts[j]? = some 33) (hds : ds[j]? = some d)
    (hv : Value.okWide Tryd.prog W .any base 33 v) (h : DataW.Trod enc Tryd.prog W 0 (fun _ => true) true 33 v d ps) : ∃ a : TSl, a.ok W ∧ v = .slice a.A a.l.length a.c := by
  obtain ⟨A, n, cap, rfl⟩ := okWide_slice Tryd.underlying33 hv
  obtain ⟨fuel, hf⟩ := h
  have hz : (d.weights Tryd.prog 33).all (· ≤ reachBytes) = true := List.all_eq_true.2 fun n hn => List.all_eq_true.1 hsz n (DataW.weights_mem_each hts hds n hn)
  have hc : Tryd.prog.cellsOf 26 = 11 := by kernel_rfl
  rcases DataW.trod_slice Tryd.underlying33 hf with ⟨hcs, hx⟩ | ⟨a, len, cap', elems, rest, m, _, hcs, hx, _, hl, hm, hlen, hel, _, _⟩
  · simp [Value.cells] at hcs
    obtain ⟨rfl, rfl, rfl⟩ := hcs
    exact ⟨⟨none, 0, []⟩, ⟨⟨rfl, by simp, fun h => by simp at h⟩, by simp, fun x hx => by cases hx⟩, rfl⟩
  · simp [Value.cells] at hcs
    obtain ⟨rfl, rfl, rfl⟩ := hcs
    have hd : d = .slice (elems.map (·.1)) (rest.map (·.1)) := by injection hx
    have each : ∀ i, i < n → ∃ p : Tk, p.ok ∧ ∀ j u, p.cells[j]? = some u → W.cell? (a.add (i * 11 + j)) = some u := by
      intro i hi
      have h1 := hel i hi
      have hie : i < elems.length := by omega
      rw [List.getElem?_eq_getElem hie, hc, Option.bind_eq_some_iff] at h1
      obtain ⟨cs, hcs, hy⟩ := h1
      have hs := World.cells?_some hcs
      have hw : (elems[i].1.weights Tryd.prog 26).all (· ≤ reachBytes) = true := by
        refine List.all_eq_true.2 fun n hn => List.all_eq_true.1 hz n ?_
        have hm : elems[i].1 ∈ elems.map (·.1) := List.mem_map.2 ⟨_, List.getElem_mem hie, rfl⟩
        rw [hd]
        simp only [DataW.weights, Tryd.underlying33]
        exact List.mem_cons_of_mem _ (List.mem_append_left _ (weights_all hm n hn))
      obtain ⟨p, rfl, hp⟩ := tok_cells hy hw
      refine ⟨p, hp, fun j u hu => ?_⟩
      have hj : j < 11 := by have := (List.getElem?_eq_some_iff.1 hu).1; exact this
      rw [← add_add, hs.2.2 j hj]
      exact hu
    let l : List S26 := List.ofFn fun i : Fin n => (Classical.choose (each i.1 i.2)).s
    have hll : l.length = n := by simp [l]
    have hli : ∀ i (hi : i < n), ∀ j u, (encB (l[i]'(by omega)))[j]? = some u → W.cell? (a.add (i * 11 + j)) = some u := fun i hi => by
      have q := (Classical.choose_spec (each i hi)).2
      have e : (l[i]'(by omega)) = (Classical.choose (each i hi)).s := by simp [l]
      rw [e]
      exact q
    have hlo : ∀ x ∈ l, Wr.OkT x := fun x hx => by
      obtain ⟨i, hi, rfl⟩ := List.mem_iff_getElem.1 hx
      have q := (Classical.choose_spec (each i (by omega))).1
      simp only [l, List.getElem_ofFn]
      exact ⟨q.2, _, q.1, rfl⟩
    refine ⟨⟨some a, cap, l⟩, ⟨⟨rfl, by simp only [maxLen] at hm; show l.length ≤ _; omega, fun _ => ⟨a, rfl, fun j p hp => ⟨encB p, rfl, k26_mk W p, fun i u hu => ?_⟩⟩⟩, by show l.length ≤ cap; omega, hlo⟩, by show Value.slice (some a) n cap = .slice (some a) l.length cap; rw [hll]⟩
    obtain ⟨hi, rfl⟩ := List.getElem?_eq_some_iff.1 hp
    exact hli j (by have q : j < l.length := hi; omega) i u hu
theorem lexisBack_w (a : TSl) (w : World) (h : a.ok w) (ht : TabOk w) : Calls Tryd.prog 7 #[.slice a.A a.l.length a.c] w fun e w' => e = .returned (.bool true) ∧ Below w.heap.size w w' := by
  obtain ⟨k, hk⟩ := P.back_law a.l h.2.2
  exact P.dowellaw04_LexisBack.calls k a.A a.c a.l true w h.1 h.2.1 hk ht
end Go.Proofs.YtldjdcdoegjmoaaDoor

import Derived.KernelRfl
import Derived.Lib.Hide
import Derived.Test.YtldjdcdoegjmoaaDoorC3
import Derived.Test.YtldjdcdoegjmoaaDoorC5
import Derived.Test.YtldjdcdoegjmoaaDoorC14
import Derived.Test.YtldjdcdoegjmoaaDoorC24
import Derived.Test.YtldjdcdoegjmoaaDoorC25
import Derived.Test.YtldjdcdoegjmoaaDoorC26
import Derived.Test.YtldjdcdoegjmoaaDoorC27
set_option linter.unusedVariables false
set_option linter.unusedSimpArgs false
namespace Go.Proofs.YtldjdcdoegjmoaaDoor.P
open Go.RowKit Go.Proofs.YtldjdcdoegjmoaaDoorW.PrintWords Go.Proofs.YtldjdcdoegjmoaaDoorW.PrintLast Go.Proofs.YtldjdcdoegjmoaaDoorW.PrintMore
def wT : ByteArray := ⟨#[65, 32, 60, 45, 32, 39, 120, 39, 105, 32, 91, 98, 93, 32, 35, 32, 121]⟩
theorem wn (p : Nat) (v : TV) (h : lexis_Next.f 1000 wT (p : Int) = some v) : nextE wT (p : Int) = v :=
  Option.some.inj ((Next_f wT (by decide) (p : Int) 1000 (by decide)).symm.trans h)
def w0 : TV := (1, 0, 1, ⟨#[65]⟩, false, 0, 0, 0, 0, 0, 0, 0, 0)
def w1 : TV := (2, 2, 4, ⟨#[]⟩, false, 0, 0, 0, 0, 0, 0, 0, 0)
def w2 : TV := (14, 5, 9, ⟨#[120]⟩, true, 0, 0, 0, 0, 0, 0, 0, 0)
def w3 : TV := (15, 10, 13, ⟨#[]⟩, false, 0, 17179869184, 0, 0, 0, 0, 0, 0)
def w4 : TV := (0, 17, 17, ⟨#[]⟩, false, 0, 0, 0, 0, 0, 0, 0, 0)
theorem wn0 : nextE wT ((0 : Nat) : Int) = w0 := wn 0 w0 (by kernel_rfl)
theorem wn1 : nextE wT ((1 : Nat) : Int) = w1 := wn 1 w1 (by kernel_rfl)
theorem wn2 : nextE wT ((4 : Nat) : Int) = w2 := wn 4 w2 (by kernel_rfl)
theorem wn3 : nextE wT ((9 : Nat) : Int) = w3 := wn 9 w3 (by kernel_rfl)
theorem wn4 : nextE wT ((13 : Nat) : Int) = w4 := wn 13 w4 (by kernel_rfl)
theorem w_on (p q : Nat) (v : TV) (r : List TV) (hp : p ≤ 17) (h : nextE wT (p : Int) = v) (h0 : codeOf v = 0) (h1 : kindOf v ≠ 0) (h2 : endOf v = (q : Int)) (hr : allE wT q = r) : allE wT p = v :: r := by
  subst h
  obtain ⟨e, h3, _, _, h4⟩ := allE_on (s := wT) hp h0 h1
  obtain rfl : e = q := by rw [h2] at h3; omega
  rw [h4, hr]
theorem w_all : allE wT 0 = [w0, w1, w2, w3, w4] :=
  w_on 0 1 w0 _ (by decide) wn0 rfl (by decide) rfl (w_on 1 4 w1 _ (by decide) wn1 rfl (by decide) rfl (w_on 4 9 w2 _ (by decide) wn2 rfl (by decide) rfl (w_on 9 13 w3 _ (by decide) wn3 rfl (by decide) rfl
    ((allE_off (fun q => q.2 (by rw [wn4]; rfl))).trans (by rw [wn4])))))
def wS : List (S26) := [w0, w1, w2, w3, w4].map tvS
theorem w_toks : lexis_Tokens.f ⟨#[65, 32, 60, 45, 32, 39, 120, 39, 105, 32, 91, 98, 93, 32, 35, 32, 121]⟩ = some (wS, 0, 0) := by
  show lexis_Tokens.f wT = _
  unfold lexis_Tokens.f
  rw [if_pos (by decide), toksOut_ok (by rw [w_all]; intro t ht; simp only [List.mem_cons, List.not_mem_nil, or_false] at ht; rcases ht with rfl | rfl | rfl | rfl | rfl <;> rfl), w_all]
  rfl
theorem w_spell : lexis_Spell.f 20 14 0 0 (⟨#[39, 10, 255]⟩ : ByteArray) false 0 0 0 0 0 0 = some (⟨#[39, 92, 39, 92, 110, 92, 120, 102, 102, 39]⟩, 0) := by kernel_rfl
theorem w_name1 : lexis_Name.f 20 (⟨#[97, 58, 58, 98, 126, 49, 50]⟩ : ByteArray) = some true := by kernel_rfl
theorem w_name2 : lexis_Name.f 20 (⟨#[97, 58, 58, 49]⟩ : ByteArray) = some false := by kernel_rfl
attribute [local go_sem high] eqA41
theorem w_cells {W : World} {B : Nat} {ok : Nat → Prop} {v : Value} (h : Kd.R k26 26 W B ok v wS) : ∃ g c, v = .slice (some ⟨g, 0, none⟩) 5 c ∧ g < W.heap.size ∧ ∀ (i j : Nat) (x : S26) (u : Value), wS[i]? = some x →
    ([.int .i64 x.f0, .int .i64 x.f1, .int .i64 x.f2, .string x.f3, .bool x.f4, .int .u64 x.f5.f0, .int .u64 x.f5.f1, .int .u64 x.f5.f2, .int .u64 x.f5.f3, .int .i64 x.f6, .int .i64 x.f7] : List Value)[j]? = some u → W.cell? ⟨g, i * 11 + j, none⟩ = some u := by
  obtain ⟨A, c, rfl, hC⟩ : ∃ A c, v = .slice A wS.length c ∧ Kd.C k26 W A wS.length wS := by
    obtain ⟨A', c', rfl, h1, h2⟩ := Kd.R_reads h
    exact ⟨A', c', rfl, by assumption⟩
  obtain ⟨_, inner, ho, _⟩ := h
  rcases ho.2 with ⟨q, q2⟩ | ⟨g, cap, cur, q, hb, hh, r1, r2, r3, r4⟩
  · exact absurd q2 (by decide)
  · injection q with q1 _ q3
    subst q1
    have hg : g < W.heap.size := by
      rcases Nat.lt_or_ge g W.heap.size with z | z
      · exact z
      · rw [Array.getElem?_eq_none z] at hh; cases hh
    refine ⟨g, c, rfl, hg, fun i j x u hx hu => ?_⟩
    obtain ⟨ad, e, hc⟩ := hC.2.2 (by decide)
    obtain rfl : ad = ⟨g, 0, none⟩ := (Option.some.inj e).symm
    obtain ⟨cs, hcl, hK, hcc⟩ := hc i x hx
    obtain rfl := k26_open hK
    have := hcc j u hu
    have e2 : ((⟨g, 0, none⟩ : Addr).add (i * 11 + j)) = ⟨g, i * 11 + j, none⟩ := by unfold Addr.add; split <;> simp_all
    rw [← e2]
    exact this
set_option maxRecDepth 100000 in
set_option maxHeartbeats 4000000 in
theorem works_w (w : World) (ht : TabOk w) : Calls Tryd.prog 14 #[] w fun e w' => e = .returned (.bool true) ∧ Below w.heap.size w w' := by
  have HT := Lib.hid ht; clear ht
  go_enter Tryd.func14, Tryd.ntmps14
  go_wp2_with fail
  refine (lexis_Tokens.calls _ _ _ _ w w_toks).mono ?_
  rintro e W1 ⟨v, rfl, hR, hb1⟩
  obtain ⟨g, c, rfl, hg, hcell⟩ := w_cells hR
  have HB1 := Lib.hid hb1; have HC := Lib.hid hcell
  clear hR hb1 hcell
  go_wp2_with fail
  have hbox := heap_alloc_new W1 (.cells #[.int .i64 0, .int .i64 0] 41)
  have hB2 := HB1.out.alloc HB1.out.size (.cells #[.int .i64 0, .int .i64 0] 41)
  have hlow : ∀ k, k < W1.heap.size → (W1.alloc (.cells #[.int .i64 0, .int .i64 0] 41)).heap[k]? = W1.heap[k]? := fun k hk => ((Below.refl W1.heap.size W1).alloc (Nat.le_refl _) _).block k hk
  have hsz : (W1.alloc (.cells #[.int .i64 0, .int .i64 0] 41)).heap.size = W1.heap.size + 1 := by simp
  have HX := Lib.hid hbox; have HB2 := Lib.hid hB2; have HL := Lib.hid hlow
  clear hbox hB2 hlow
  generalize W1.alloc (.cells #[.int .i64 0, .int .i64 0] 41) = W2 at *
  refine (lexis_Spell.calls 20 14 0 0 ⟨#[39, 10, 255]⟩ false 0 0 0 0 0 0 _ _ W2 w_spell (tab_below HT.out HB2.out)).mono ?_
  rintro e W3 ⟨rfl, hb3⟩
  have hx3 : W3.heap[W1.heap.size]? = some (.cells #[.int .i64 0, .int .i64 0] 41 (0, 0)) := (hb3.block _ (by omega)).trans HX.out
  have hcell3 : ∀ (o : Nat), W3.cell? ⟨g, o, none⟩ = W1.cell? ⟨g, o, none⟩ := fun o => by
    have h1 : W3.heap[g]? = W1.heap[g]? := (hb3.block g (by omega)).trans (HL.out g hg)
    exact World.cell?_of_block (a := ⟨g, o, none⟩) h1
  have HB3 := Lib.hid (HB2.out.trans (hb3.mono HB2.out.size))
  have b0 : W3.cell? ⟨W1.heap.size, 0, none⟩ = some (.int .i64 0) := by simp [World.cell?, hx3]
  have b1 : W3.cell? ⟨W1.heap.size, 1, none⟩ = some (.int .i64 0) := by simp [World.cell?, hx3]
  have c03 : W3.cell? ⟨g, 3, none⟩ = some (.string ⟨#[65]⟩) := (hcell3 _).trans (HC.out 0 3 _ _ rfl rfl)
  have c10 : W3.cell? ⟨g, 11, none⟩ = some (.int .i64 2) := (hcell3 _).trans (HC.out 1 0 _ _ rfl rfl)
  have c24 : W3.cell? ⟨g, 26, none⟩ = some (.bool true) := (hcell3 _).trans (HC.out 2 4 _ _ rfl rfl)
  have c23 : W3.cell? ⟨g, 25, none⟩ = some (.string ⟨#[120]⟩) := (hcell3 _).trans (HC.out 2 3 _ _ rfl rfl)
  have c30 : W3.cell? ⟨g, 33, none⟩ = some (.int .i64 15) := (hcell3 _).trans (HC.out 3 0 _ _ rfl rfl)
  have c40 : W3.cell? ⟨g, 44, none⟩ = some (.int .i64 0) := (hcell3 _).trans (HC.out 4 0 _ _ rfl rfl)
  have c41 : W3.cell? ⟨g, 45, none⟩ = some (.int .i64 17) := (hcell3 _).trans (HC.out 4 1 _ _ rfl rfl)
  clear hb3 hx3 hcell3
  go_wp2_with fail
  refine (lexis_Name.calls 20 _ _ _ w_name1).mono ?_
  rintro e W4 ⟨rfl, n4, rfl⟩
  go_wp2_with fail
  refine (lexis_Name.calls 20 _ _ _ w_name2).mono ?_
  rintro e W5 ⟨rfl, n5, rfl⟩
  go_wp2
  go_ret
  exact ⟨rfl, pw_below_drewN HB3.out _⟩
end Go.Proofs.YtldjdcdoegjmoaaDoor.P

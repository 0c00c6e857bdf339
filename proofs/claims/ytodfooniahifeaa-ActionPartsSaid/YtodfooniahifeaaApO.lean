/- The parts of nodes: what the reading of a list of nodes comes to. -/
import Derived.Test.YtodfooniahifeaaApW
import Derived.ChangeArms
import Derived.ProofKit
import Derived.ChangeOld
import Derived.SizedLaws
import Derived.ChangeSlices
import Derived.OpenShut
import Derived.WideShapes
set_option linter.unusedVariables false
set_option linter.unusedSimpArgs false
namespace Go.Proofs.Ytodfooniahifeaa
open Go.ChangeShapes Go.WideShapes Go.ChangeAt Go.RowKit Go.Proofs.YtodfooniahifeaaW.PrintWords Go.Proofs.Ytodfooniahifeaa.PActionParts
theorem add_add (a : Addr) (i j : Nat) : (a.add i).add j = a.add (i + j) := by
  unfold Addr.add
  by_cases h1 : i = 0 <;> by_cases h2 : j = 0 <;> simp [h1, h2, Nat.add_assoc]
structure ASl where
  A : Option Addr
  c : Nat
  l : List S33
def ASl.ok (w : World) (a : ASl) : Prop := Kd.C k33 w a.A a.l.length a.l ∧ a.l.length ≤ a.c
theorem act_cells {H : Type} {enc : TypeId × Value → H} {W : World} {base m : Nat} {spare : Nat → Bool} {held : Bool} {cs : List Value} {y : DataW H × List MemPlace} (h : DataW.trod enc Try.prog W base spare held m 33 cs = some y) (hlen : cs.length = 6) : ∃ p : S33, cs = Ap.enc p := by
  obtain ⟨c0, c1, c2, c3, c4, c5, rfl⟩ : ∃ c0 c1 c2 c3 c4 c5, cs = [c0, c1, c2, c3, c4, c5] := by
    match cs, hlen with
    | [c0, c1, c2, c3, c4, c5], _ => exact ⟨c0, c1, c2, c3, c4, c5, rfl⟩
  obtain ⟨xs, n, _, rfl, _, hl, hf⟩ := DataW.trod_struct Try.underlying33 h
  have k3 : Try.prog.cellsOf 3 = 1 := by kernel_rfl
  have k9 : Try.prog.cellsOf 9 = 1 := by kernel_rfl
  have k31 : Try.prog.cellsOf 31 = 2 := by kernel_rfl
  have g : ∀ i, i < 5 → ∃ z, xs[i]? = some z := fun i hi => ⟨_, List.getElem?_eq_getElem (by rw [hl]; exact hi)⟩
  obtain ⟨z0, e0⟩ := g 0 (by omega)
  obtain ⟨z1, e1⟩ := g 1 (by omega)
  obtain ⟨z2, e2⟩ := g 2 (by omega)
  obtain ⟨z3, e3⟩ := g 3 (by omega)
  obtain ⟨z4, e4⟩ := g 4 (by omega)
  have h0 := (hf 0 _ rfl).trans e0
  have h1 := (hf 1 _ rfl).trans e1
  have h2 := (hf 2 _ rfl).trans e2
  have h3 := (hf 3 _ rfl).trans e3
  have h4 := (hf 4 _ rfl).trans e4
  obtain ⟨x0, q0, _, _⟩ := DataW.trod_int Try.underlying3 h0
  obtain ⟨x1, q1, _, _⟩ := DataW.trod_int Try.underlying3 h1
  obtain ⟨x2, q2, _, _⟩ := DataW.trod_string Try.underlying9 h2
  obtain ⟨x3, q3, _, _⟩ := DataW.trod_string Try.underlying9 h3
  obtain ⟨ys, n2, _, _, _, hl2, hf2⟩ := DataW.trod_struct Try.underlying31 h4
  have g2 : ∀ i, i < 2 → ∃ z, ys[i]? = some z := fun i hi => ⟨_, List.getElem?_eq_getElem (by rw [hl2]; exact hi)⟩
  obtain ⟨z5, e5⟩ := g2 0 (by omega)
  obtain ⟨z6, e6⟩ := g2 1 (by omega)
  have h5 := (hf2 0 _ rfl).trans e5
  have h6 := (hf2 1 _ rfl).trans e6
  obtain ⟨x5, q5, _, _⟩ := DataW.trod_int Try.underlying3 h5
  obtain ⟨x6, q6, _, _⟩ := DataW.trod_int Try.underlying3 h6
  simp [k3, k9, k31] at q0 q1 q2 q3 q5 q6
  subst q0 q1 q2 q3 q5 q6
  exact ⟨⟨x0, x1, x2, x3, ⟨x5, x6⟩⟩, rfl⟩
theorem open_acts {H : Type} {enc : TypeId × Value → H} {W : World} {base : Nat} {v : Value} {d : DataW H} {ps : List MemPlace} {ts : List TypeId} {ds : List (DataW H)}
    (hsz : (DataW.weightsEach Try.prog ts ds).all (· ≤ reachBytes) = true) {j : Nat} (hts : ts[j]? = some 22) (hds : ds[j]? = some d)
    (hv : Value.okWide Try.prog W .any base 22 v) (h : DataW.Trod enc Try.prog W 0 (fun _ => true) true 22 v d ps) : ∃ a : ASl, a.ok W ∧ v = .slice a.A a.l.length a.c := by
  obtain ⟨A, n, cap, rfl⟩ := okWide_slice Try.underlying22 hv
  obtain ⟨fuel, hf⟩ := h
  have hc : Try.prog.cellsOf 33 = 6 := by kernel_rfl
  rcases DataW.trod_slice Try.underlying22 hf with ⟨hcs, hx⟩ | ⟨a, len, cap', elems, rest, m, _, hcs, hx, _, hl, hm, hlen, hel, _, _⟩
  · simp [Value.cells] at hcs
    obtain ⟨rfl, rfl, rfl⟩ := hcs
    exact ⟨⟨none, 0, []⟩, ⟨⟨rfl, by simp, fun h => by simp at h⟩, by simp⟩, rfl⟩
  · simp [Value.cells] at hcs
    obtain ⟨rfl, rfl, rfl⟩ := hcs
    have each : ∀ i, i < n → ∃ p : S33, ∀ j u, (Ap.enc p)[j]? = some u → W.cell? (a.add (i * 6 + j)) = some u := by
      intro i hi
      have h1 := hel i hi
      rw [List.getElem?_eq_getElem (by omega), hc, Option.bind_eq_some_iff] at h1
      obtain ⟨cs, hcs, hy⟩ := h1
      have hs := World.cells?_some hcs
      obtain ⟨p, rfl⟩ := act_cells hy hs.2.1
      refine ⟨p, fun j u hu => ?_⟩
      have hj : j < 6 := by have := (List.getElem?_eq_some_iff.1 hu).1; exact this
      rw [← add_add, hs.2.2 j hj]
      exact hu
    let l : List S33 := List.ofFn fun i : Fin n => Classical.choose (each i.1 i.2)
    have hll : l.length = n := by simp [l]
    have hli : ∀ i (hi : i < n), ∀ j u, (Ap.enc (l[i]'(by omega)))[j]? = some u → W.cell? (a.add (i * 6 + j)) = some u := fun i hi => by
      have := Classical.choose_spec (each i hi)
      simpa [l] using this
    refine ⟨⟨some a, cap, l⟩, ⟨⟨rfl, by simp only [maxLen] at hm; show l.length ≤ _; omega, fun _ => ⟨a, rfl, fun j p hp => ⟨Ap.enc p, rfl, k33_mk W p, fun i u hu => ?_⟩⟩⟩, by show l.length ≤ cap; omega⟩, by show Value.slice (some a) n cap = .slice (some a) l.length cap; rw [hll]⟩
    obtain ⟨hi, rfl⟩ := List.getElem?_eq_some_iff.1 hp
    exact hli j (by have q : j < l.length := hi; omega) i u hu
theorem actionParts_w (a : ASl) (i k : Int) (w : World) (h : a.ok w) (h1 : (Lit.int .i64 i).wf = true) (h2 : (Lit.int .i64 k).wf = true) :
    Calls Try.prog 3 #[.slice a.A a.l.length a.c, .int .i64 i, .int .i64 k] w fun e w' => e = .returned (.bool true) ∧ Below w.heap.size w w' := Ap.law_w a.A a.c a.l i k w h.1 h.2
end Go.Proofs.Ytodfooniahifeaa

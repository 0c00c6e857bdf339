/- What the readings of a law's arguments come to: slices whose elements read cell by cell; ranges. -/
import Derived.Test.YtachpdeejificaaOpen
import Derived.Test.YtachpdeejificaaKit2
import Derived.Test.YtachpdeejificaaCls8
import Derived.SizedLaws
import Derived.ChangeSlices
import Derived.OpenShut
set_option linter.unusedVariables false
set_option linter.unusedSimpArgs false
namespace Go.Proofs.Ytachpdeejificaa
open Go.ChangeShapes Go.WideShapes Go.ChangeAt Go.RowKit
theorem flat_len {α β : Type} (f : α → List β) (size : Nat) : ∀ l : List α, (∀ p ∈ l, (f p).length = size) → (l.flatMap f).length = l.length * size
  | [], _ => by simp
  | p :: l, h => by
    rw [List.flatMap_cons, List.length_append, h p (by simp), flat_len f size l (fun q hq => h q (by simp [hq])), List.length_cons, Nat.add_mul]
    omega
theorem flat_at {α β : Type} (f : α → List β) (size : Nat) (hs : 0 < size) : ∀ (l : List α) (k : Nat), (∀ p ∈ l, (f p).length = size) → (l.flatMap f)[k]? = (l[k / size]?).bind fun p => (f p)[k % size]?
  | [], k, _ => by simp
  | p :: l, k, h => by
    have hp := h p (by simp)
    rw [List.flatMap_cons]
    rcases Nat.lt_or_ge k size with hk | hk
    · rw [List.getElem?_append_left (by omega), Nat.div_eq_of_lt hk, Nat.mod_eq_of_lt hk]; rfl
    · rw [List.getElem?_append_right (by omega), hp, flat_at f size hs l (k - size) (fun q hq => h q (by simp [hq]))]
      have e1 : k / size = (k - size) / size + 1 := by rw [← Nat.sub_add_cancel hk, Nat.add_div_right _ hs]; simp
      have e2 : k % size = (k - size) % size := by conv => lhs; rw [← Nat.sub_add_cancel hk, Nat.add_mod_right]
      rw [e1, e2]
      rfl
theorem add_add (a : Addr) (i j : Nat) : (a.add i).add j = a.add (i + j) := by
  unfold Addr.add
  by_cases h1 : i = 0 <;> by_cases h2 : j = 0 <;> simp [h1, h2, Nat.add_assoc]
/-- A slice that came in, opened by what each element's cells say: its elements, in order, and all its cells. -/
theorem open_elems {H : Type} {enc : TypeId × Value → H} {P : Program} {W : World} {base base' : Nat} {spare : Nat → Bool} {held : Bool} {α : Type} {t e : TypeId} {v : Value} {d : DataW H} {ps : List MemPlace} {size : Nat}
    (f : α → List Value) (ok : α → Prop)
    (ht : P.underlying t = some (.slice e)) (hc : P.cellsOf e = size) (hsz : 0 < size)
    (hR : ∀ n cs y, DataW.trod enc P W base spare held n e cs = some y → cs.length = size → ∃ p, ok p ∧ cs = f p)
    (hv : Value.okWide P W .any base' t v) (h : DataW.Trod enc P W base spare held t v d ps) :
    ∃ (A : Option Addr) (n cap : Nat) (l : List α) (es sp : List (DataW H)), v = .slice A n cap ∧ l.length = n ∧ n ≤ maxLen ∧ (∀ p ∈ l, ok p) ∧ RdCells W A n size (l.flatMap f) ∧ (d = .nil ∧ n = 0 ∨ d = .slice es sp ∧ es.length = n) := by
  obtain ⟨A, n, cap, rfl⟩ := okWide_slice ht hv
  obtain ⟨fuel, hf⟩ := h
  rcases DataW.trod_slice ht hf with ⟨hcs, hx⟩ | ⟨a, len, cap', elems, rest, m, _, hcs, hx, _, hl, hm, hlen, hel, _, _⟩
  · simp [Value.cells] at hcs
    obtain ⟨rfl, rfl, rfl⟩ := hcs
    exact ⟨none, 0, 0, [], [], [], rfl, rfl, by simp [maxLen], by simp, ⟨by simp, fun h => by omega⟩, .inl ⟨(Prod.mk.inj hx).1, rfl⟩⟩
  · simp [Value.cells] at hcs
    obtain ⟨rfl, rfl, rfl⟩ := hcs
    have each : ∀ i, i < n → ∃ p, ok p ∧ (f p).length = size ∧ ∀ j u, (f p)[j]? = some u → W.cell? (a.add (i * size + j)) = some u := by
      intro i hi
      have h1 := hel i hi
      rw [List.getElem?_eq_getElem (by omega), hc, Option.bind_eq_some_iff] at h1
      obtain ⟨cs, hcs, hy⟩ := h1
      have hs := World.cells?_some hcs
      obtain ⟨p, hp, rfl⟩ := hR _ _ _ hy (by first | exact hs.1 | exact hs.2.1 | omega)
      refine ⟨p, hp, hs.2.1, fun j u hu => ?_⟩
      have hj : j < size := by have := (List.getElem?_eq_some_iff.1 hu).1; rw [hs.2.1] at this; exact this
      rw [← add_add, hs.2.2 j hj]
      exact hu
    let l : List α := List.ofFn fun i : Fin n => Classical.choose (each i.1 i.2)
    have hll : l.length = n := by simp [l]
    have hli : ∀ i (hi : i < n), ok (l[i]'(by omega)) ∧ (f (l[i]'(by omega))).length = size ∧ ∀ j u, (f (l[i]'(by omega)))[j]? = some u → W.cell? (a.add (i * size + j)) = some u := fun i hi => by
      have := Classical.choose_spec (each i hi)
      simpa [l] using this
    have hlm : ∀ p ∈ l, ok p ∧ (f p).length = size := fun p hp => by
      obtain ⟨i, hi, rfl⟩ := List.getElem_of_mem hp
      exact ⟨(hli i (by omega)).1, (hli i (by omega)).2.1⟩
    refine ⟨some a, n, cap, l, _, _, rfl, hll, by omega, fun p hp => (hlm p hp).1, ⟨by rw [flat_len f size l (fun p hp => (hlm p hp).2), hll], fun _ => ⟨a, rfl, fun k u hu => ?_⟩⟩, .inr ⟨(Prod.mk.inj hx).1, by simpa using hlen⟩⟩
    rw [flat_at f size hsz l k (fun p hp => (hlm p hp).2)] at hu
    obtain ⟨p, hp, hu⟩ := Option.bind_eq_some_iff.1 hu
    obtain ⟨hi, rfl⟩ := List.getElem?_eq_some_iff.1 hp
    have := (hli (k / size) (by omega)).2.2 _ _ hu
    rwa [Nat.mul_comm, Nat.div_add_mod] at this
/-! ### Ranges -/
def rcell (p : Nat × Nat) : List Value := [.int .u8 (p.1 : Int), .int .u8 (p.2 : Int)]
structure RSl where
  A : Option Addr
  n : Nat
  cap : Nat
  l : List (Nat × Nat)
abbrev RSl.val (a : RSl) : Value := .slice a.A a.n a.cap
def RSl.ok (w : World) (a : RSl) : Prop := RdRanges w a.A a.n a.l ∧ RdCells w a.A a.n 2 (a.l.flatMap rcell)
theorem rd_ranges {w : World} {A : Option Addr} {n : Nat} {l : List (Nat × Nat)} (hl : l.length = n) (hb : n * 2 ≤ 140737488351232) (hr : ∀ p ∈ l, p.1 < 256 ∧ p.2 < 256) (hc : RdCells w A n 2 (l.flatMap rcell)) : RdRanges w A n l := by
  refine ⟨hl, hb, hr, fun hn => ?_⟩
  obtain ⟨⟨b, off, spot⟩, rfl, h⟩ := hc.2 hn
  have hat : ∀ k, k < n → ∀ j, j < 2 → w.cell? ((⟨b, off, spot⟩ : Addr).add (k * 2 + j)) = (rcell (l.getD k (0, 0)))[j]? := fun k hk j hj => by
    have e : (l.flatMap rcell)[k * 2 + j]? = (rcell (l.getD k (0, 0)))[j]? := by
      rw [flat_at rcell 2 (by omega) l _ (fun p _ => rfl), show (k * 2 + j) / 2 = k by omega, show (k * 2 + j) % 2 = j by omega, List.getElem?_eq_getElem (show k < l.length by omega), List.getD_eq_getElem?_getD, List.getElem?_eq_getElem (show k < l.length by omega)]
      rfl
    have hj' : j = 0 ∨ j = 1 := by omega
    rcases hj' with rfl | rfl
    · rw [show (rcell (l.getD k (0, 0)))[0]? = some (.int .u8 ((l.getD k (0, 0)).1 : Int)) from rfl] at e ⊢; exact h _ _ e
    · rw [show (rcell (l.getD k (0, 0)))[1]? = some (.int .u8 ((l.getD k (0, 0)).2 : Int)) from rfl] at e ⊢; exact h _ _ e
  have hs : spot = none := by
    have h0 := hat 0 hn 0 (by omega)
    have h0' : w.cell? (⟨b, off, spot⟩ : Addr) = some (.int .u8 ((l.getD 0 (0, 0)).1 : Int)) := by simpa [Addr.add, rcell] using h0
    exact World.cell?_spot h0'
  subst hs
  have ha : ∀ k, (⟨b, off, none⟩ : Addr).add k = ⟨b, off + k, none⟩ := fun k => by unfold Addr.add; split <;> simp_all
  refine ⟨b, off, rfl, fun k hk => ⟨?_, ?_⟩⟩
  · have := hat k hk 0 (by omega); rw [ha] at this; exact this
  · have := hat k hk 1 (by omega); rw [ha, ← Nat.add_assoc] at this; exact this
theorem nat_of_u8 {x : Int} (h : (Lit.int .u8 x).wf = true) : ∃ n : Nat, n < 256 ∧ x = (n : Int) := by
  have hmin : IntKind.u8.min = 0 := rfl
  have hmax : IntKind.u8.max = 255 := rfl
  simp only [Lit.wf, Bool.and_eq_true, decide_eq_true_eq, hmin, hmax] at h
  exact ⟨x.toNat, by omega, by omega⟩
theorem bytes_range : Try.prog.bytesOf 34 = 2 := by kernel_rfl
theorem open_ranges {H : Type} {enc : TypeId × Value → H} {W : World} {base : Nat} {v : Value} {d : DataW H} {ps : List MemPlace} {ts : List TypeId} {ds : List (DataW H)}
    (hsz : (DataW.weightsEach Try.prog ts ds).all (· ≤ reachBytes) = true) {j : Nat} (hts : ts[j]? = some 32) (hds : ds[j]? = some d)
    (hv : Value.okWide Try.prog W .any base 32 v) (h : DataW.Trod enc Try.prog W 0 (fun _ => true) true 32 v d ps) : ∃ a : RSl, a.ok W ∧ v = .slice a.A a.n a.cap := by
  have hR : ∀ m cs y, DataW.trod enc Try.prog W 0 (fun _ => true) true m 34 cs = some y → cs.length = 2 → ∃ p : Nat × Nat, (p.1 < 256 ∧ p.2 < 256) ∧ cs = rcell p := by
    intro m cs y hy hlen
    obtain ⟨y0, y1, k, _, _, h0, h1⟩ := trod_struct2 Try.underlying34 hy
    obtain ⟨c0, c1, rfl⟩ : ∃ c0 c1, cs = [c0, c1] := by
      match cs, hlen with
      | [c0, c1], _ => exact ⟨c0, c1, rfl⟩
    obtain ⟨x0, e0, _, w0⟩ := DataW.trod_int Try.underlying5 h0
    obtain ⟨x1, e1, _, w1⟩ := DataW.trod_int Try.underlying5 h1
    obtain ⟨n0, l0, rfl⟩ := nat_of_u8 w0
    obtain ⟨n1, l1, rfl⟩ := nat_of_u8 w1
    have hcu : Try.prog.cellsOf 5 = 1 := by kernel_rfl
    rw [hcu] at e0 e1
    simp at e0 e1
    exact ⟨(n0, n1), ⟨l0, l1⟩, by rw [e0, e1]; rfl⟩
  obtain ⟨A, n, cap, l, es, sp, rfl, hl, hm, hok, hc, hd⟩ := open_elems rcell (fun p => p.1 < 256 ∧ p.2 < 256) (P := Try.prog) (t := 32) (e := 34) (size := 2) Try.underlying32 (by kernel_rfl) (by omega) hR hv h
  have hb : n * 2 ≤ 140737488351232 := by
    rcases hd with ⟨_, h0⟩ | ⟨rfl, hes⟩
    · omega
    · have z := sized_slice hsz hts hds Try.underlying32
      rw [bytes_range] at z
      simp only [reachBytes] at z
      omega
  exact ⟨⟨A, n, cap, l⟩, ⟨rd_ranges hl hb hok hc, hc⟩, rfl⟩
end Go.Proofs.Ytachpdeejificaa

/- Reading a class: the whole, plain; the program's Parse. -/
import Derived.Test.YtachpdeejificaaRd5
import Derived.Test.YtachpdeejificaaCls8
set_option linter.unusedVariables false
set_option linter.unusedSimpArgs false
namespace Go.Proofs.Ytachpdeejificaa
open Go.RowKit
/-- The items up to the ]: the ranges, the place behind it, where what is wrong is told, what is wrong. -/
def itemsF (s : ByteArray) (b : Nat) : Nat → Nat → List (Nat × Nat) → List (Nat × Nat) × Nat × Nat × Nat
  | 0, _, _ => ([], 0, 0, 1)
  | k + 1, p, l =>
    if p < s.size ∧ bat s p = 93 then (l, p + 1, 0, 0)
    else if (itemF s b p).2.2.2.2 = 0 then itemsF s b k (itemF s b p).2.2.1 (l ++ [((itemF s b p).1, (itemF s b p).2.1)])
    else ([], 0, (itemF s b p).2.2.2.1, (itemF s b p).2.2.2.2)
theorem itemF_next (s : ByteArray) (b p : Nat) (h : p ≤ s.size) : p ≤ (itemF s b p).2.2.1 ∧ (itemF s b p).2.2.1 ≤ s.size := by
  have h1 := byteF_next s p h
  unfold itemF
  split
  · split
    · next q =>
      have h2 := byteF_next s ((byteF s p).2.1 + 1) (by omega)
      split <;> (dsimp only; omega)
    · exact h1
  · exact h1
theorem itemF_on (s : ByteArray) (b p : Nat) (h : p ≤ s.size) (h0 : (itemF s b p).2.2.2.2 = 0) : p < (itemF s b p).2.2.1 := by
  revert h0
  have h1 := byteF_next s p h
  have h3 := byteF_on s p
  unfold itemF
  split
  · next q0 =>
    split
    · next q =>
      have h2 := byteF_next s ((byteF s p).2.1 + 1) (by omega)
      split <;> (intro _; dsimp only; have := h3 q0; omega)
    · intro _; exact h3 q0
  · next q0 => intro h; exact absurd h q0
theorem itemF_bytes (s : ByteArray) (b p : Nat) : (itemF s b p).1 < 256 ∧ (itemF s b p).2.1 < 256 := by
  have h1 := byteF_byte s p
  have h2 := byteF_byte s ((byteF s p).2.1 + 1)
  unfold itemF
  split
  · split
    · split <;> exact ⟨h1, h2⟩
    · exact ⟨h1, h1⟩
  · exact ⟨h1, h1⟩
/-- A list of ranges: its cells. -/
def rcells (l : List (Nat × Nat)) : List Value := l.flatMap fun p => [.int .u8 (p.1 : Int), .int .u8 (p.2 : Int)]
theorem rcells_snoc (l : List (Nat × Nat)) (a b : Nat) : rcells (l ++ [(a, b)]) = rcells l ++ [.int .u8 (a : Int), .int .u8 (b : Int)] := by unfold rcells; simp
theorem rcells_at : ∀ (l : List (Nat × Nat)) (j : Nat), j < l.length → (rcells l)[j * 2]? = some (.int .u8 ((l.getD j (0, 0)).1 : Int)) ∧ (rcells l)[j * 2 + 1]? = some (.int .u8 ((l.getD j (0, 0)).2 : Int))
  | [], j, h => by simp at h
  | p :: l, 0, _ => ⟨rfl, rfl⟩
  | p :: l, j + 1, h => by
    have ih := rcells_at l j (by simpa using h)
    have e : rcells (p :: l) = .int .u8 (p.1 : Int) :: .int .u8 (p.2 : Int) :: rcells l := by simp [rcells]
    rw [e, show (j + 1) * 2 = j * 2 + 1 + 1 by omega]
    exact ih
theorem infoRng : (Try.prog.info? 34).map (fun i => (i.zero, i.size, i.bytes)) = some (some (.agg #[.int .u8 0, .int .u8 0]), 2, 2) := by kernel_rfl
/-- A slice of ranges of the call's own is read. -/
theorem own_ranges {w : World} {base : Nat} {v : Value} {l : List (Nat × Nat)} (h : w.ownsRow base 34 2 v l.length (rcells l)) (hn : l.length * 2 ≤ 140737488351232) (hb : ∀ p ∈ l, p.1 < 256 ∧ p.2 < 256) :
    ∃ A c, v = .slice A l.length c ∧ RdRanges w A l.length l := by
  rcases h.2 with ⟨rfl, h0⟩ | ⟨g, cap, cur, rfl, _⟩
  · exact ⟨none, 0, by rw [h0], rfl, hn, hb, fun q => by omega⟩
  · refine ⟨_, cap, rfl, rfl, hn, hb, fun _ => ⟨g, 0, rfl, fun j hj => ?_⟩⟩
    have e := rcells_at l j hj
    constructor
    · rw [Nat.zero_add, World.ownsRow.cellAt h (j * 2) (by omega)]; exact e.1
    · rw [Nat.zero_add, World.ownsRow.cellAt h (j * 2 + 1) (by omega)]; exact e.2
def lenOf (v : Value) : Nat := match v with | .slice _ n _ => n | _ => 0
def parseF (s : ByteArray) (p : Nat) : Cls × Nat × Nat × Nat :=
  if p < s.size ∧ bat s p = 91 then
    let o := p + 1 < s.size ∧ bat s (p + 1) = 94
    let r := itemsF s p (s.size + 1) (if o then p + 2 else p + 1) []
    if r.2.2.2 = 0 then (if o then (Cls.ofFn (inRanges r.1)).not else Cls.ofFn (inRanges r.1), r.2.1, 0, 0) else (Cls.none, 0, r.2.2.1, r.2.2.2)
  else (Cls.none, 0, p, 30)
def parseV (r : Cls × Nat × Nat × Nat) : Value := .tuple #[V4 r.1, .int .i64 (r.2.1 : Int), .agg #[.int .i64 (r.2.2.1 : Int), .int .i64 (r.2.2.2 : Int)]]
/-- What is read at a place that may be none. -/
def parseI (s : ByteArray) (n : Int) : Cls × Nat × Nat × Nat := if n < 0 ∨ (s.size : Int) < n then (Cls.none, 0, 0, 5) else parseF s n.toNat
end Go.Proofs.Ytachpdeejificaa

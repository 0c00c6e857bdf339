/- Reading a class, the program's way: skip. -/
import Derived.Test.YtachpdeejificaaRd1
import Derived.Lib.BufferOwn
set_option linter.unusedVariables false
set_option linter.unusedSimpArgs false
namespace Go.Proofs.Ytachpdeejificaa
open Go.RowKit
theorem gb_drew {w w' : World} {row : Option Nat} (h : w.grownBy w' row) : w.grownBy w'.drew row := ⟨h.os, h.tape, h.output, h.size, h.block⟩
theorem gb_drewN {w w' : World} {n : Nat} {row : Option Nat} (h : w.grownBy w' row) : w.grownBy (w'.drewN n) row := ⟨h.os, h.tape, h.output, h.size, h.block⟩
theorem gb_refl (w : World) (row : Option Nat) : w.grownBy w row := World.grownBy.refl w row
/-- A class's reader: its cells. -/
def rdCells (s : ByteArray) (b p : Nat) : Array Value := #[.string s, .int .i64 (b : Int), .int .i64 (p : Int)]
def RdAt (w : World) (g : Nat) (s : ByteArray) (b p : Nat) : Prop := w.heap[g]? = some (.cells (rdCells s b p) 73 (0, 0))
def bigN : Nat := 4611686018427387904
theorem RdAt.c0 {w : World} {g : Nat} {s : ByteArray} {b p : Nat} (h : RdAt w g s b p) : w.cell? ⟨g, 0, none⟩ = some (.string s) := by rw [cell_of_row _ _ _ _ _ _ h]; rfl
theorem RdAt.c1 {w : World} {g : Nat} {s : ByteArray} {b p : Nat} (h : RdAt w g s b p) : w.cell? ⟨g, 1, none⟩ = some (.int .i64 (b : Int)) := by rw [cell_of_row _ _ _ _ _ _ h]; rfl
theorem RdAt.c2 {w : World} {g : Nat} {s : ByteArray} {b p : Nat} (h : RdAt w g s b p) : w.cell? ⟨g, 2, none⟩ = some (.int .i64 (p : Int)) := by rw [cell_of_row _ _ _ _ _ _ h]; rfl
theorem RdAt.f2 {w : World} {g : Nat} {s : ByteArray} {b p : Nat} (h : RdAt w g s b p) : w.frozen? ⟨g, 2, none⟩ = false := frozen_of_row _ _ _ _ _ h
theorem RdAt.moved {w : World} {g : Nat} {s : ByteArray} {b p : Nat} (h : RdAt w g s b p) (q : Nat) : RdAt (w.setCell ⟨g, 2, none⟩ (.int .i64 (q : Int))) g s b q := heap_put h
def Skipped (s : ByteArray) (b p g x : Nat) (w : World) (e : Ending) (w' : World) : Prop :=
  e = .returned (.bool (decide (p < s.size ∧ bat s p = x))) ∧ w.grownBy w' (some g) ∧ RdAt w' g s b (if p < s.size ∧ bat s p = x then p + 1 else p)
set_option maxRecDepth 100000 in
theorem skip_c (s : ByteArray) (hs : s.size ≤ bigN) (b p g x : Nat) (hx : x < 256) (hp : p ≤ s.size) (w : World) (H : RdAt w g s b p) : Calls Try.prog 42 #[.pointer (some ⟨g, 0, none⟩), .int .u8 (x : Int)] w (Skipped s b p g x w) := by
  have c0 := H.c0; have c2 := H.c2; have f2 := H.f2
  unfold bigN at hs
  go_enter Try.func42, Try.ntmps42
  by_cases hlt : p < s.size
  · have hb := bat_eq s p hlt
    by_cases he : bat s p = x
    · have hd : decide (((bat s p : Nat) : Int) = (x : Int)) = true := by simp [he]
      rw [← hb] at hd
      go_wp2
      go_quiet (fail)
      go_wp2
      go_ret
      unfold Skipped
      rw [decide_eq_true ⟨hlt, he⟩, if_pos ⟨hlt, he⟩]
      exact ⟨rfl, Go.Lib.grownBy_setB (gb_drewN (gb_refl _ _)) _ _, H.moved _⟩
    · have hd : decide (((bat s p : Nat) : Int) = (x : Int)) = false := by simp; omega
      rw [← hb] at hd
      go_wp2
      go_quiet (fail)
      go_wp2
      go_ret
      unfold Skipped
      rw [decide_eq_false (fun h => he h.2), if_neg (fun h => he h.2)]
      exact ⟨rfl, gb_drewN (gb_refl _ _), H⟩
  · go_wp2
    go_quiet (fail)
    go_wp2
    go_ret
    unfold Skipped
    rw [decide_eq_false (fun h => hlt h.1), if_neg (fun h => hlt h.1)]
    exact ⟨rfl, gb_drewN (gb_refl _ _), H⟩
end Go.Proofs.Ytachpdeejificaa

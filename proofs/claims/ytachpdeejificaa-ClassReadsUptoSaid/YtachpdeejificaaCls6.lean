/- Classes, the document's way, on: Bytes. -/
import Derived.Test.YtachpdeejificaaCls3
import Derived.Test.YtachpdeejificaaKit2
set_option linter.unusedVariables false
set_option linter.unusedSimpArgs false
namespace Go.Proofs.Ytachpdeejificaa
open Go.RowKit
/-- The bytes below k that are in. -/
def Cls.below (a : Cls) (k : Nat) : List Nat := (List.range k).filter a.mem
def Cls.bytes (a : Cls) : List Nat := a.below 256
def u8s (l : List Nat) : List Value := l.map fun (b : Nat) => Value.int .u8 (b : Int)
theorem Cls.below_yes {a : Cls} {k : Nat} (h : a.mem k = true) : a.below (k + 1) = a.below k ++ [k] := by
  unfold below; rw [List.range_succ, List.filter_append]; simp [h]
theorem Cls.below_no {a : Cls} {k : Nat} (h : a.mem k = false) : a.below (k + 1) = a.below k := by
  unfold below; rw [List.range_succ, List.filter_append]; simp [h]
theorem Cls.below_le (a : Cls) (k : Nat) : (a.below k).length ≤ k := by
  unfold below
  exact Nat.le_trans (List.length_filter_le _ _) (by simp)
theorem u8s_snoc (l : List Nat) (k : Nat) : u8s (l ++ [k]) = u8s l ++ [.int .u8 (k : Int)] := by simp [u8s]
theorem infoU8 : (Try.prog.info? 5).map (fun i => (i.zero, i.size, i.bytes)) = some (some (.int .u8 0), 1, 1) := by kernel_rfl
def OwnU8 (w : World) (l : List Nat) (e : Ending) (w' : World) : Prop := ∃ v, e = .returned v ∧ w'.ownsRow w.heap.size 5 1 v l.length (u8s l) ∧ Below w.heap.size w w'
set_option maxRecDepth 100000 in
theorem bytes_c (a : Cls) (ha : a.ok) (w : World) : Calls Try.prog 11 #[V4 a] w (OwnU8 w a.bytes) := by
  have HA := Lib.hid ha; clear ha
  have hv := zeroSet.1
  go_enter Try.func11, Try.ntmps11
  go_wp2_with (first | (go_at_call 35; refine (open_c a HA.out _).mono ?_; rintro e w1 ⟨rfl, hb1⟩; unfold setVal) | (refine wpList_store_row rfl 62 _ _ rfl w1.heap.size (setCells a.mem) rfl rfl _ _ (heap_new _ _) (infoSet _) (by rw [setCells_size]; rfl) (setCells_one _) ?_; rw [World.setRow_alloc_new]))
  have hz := hb1.size
  have hb := ((Below.refl _ _).alloc (Nat.le_refl _) _).trans (hb1.mono (by simp))
  simp only [World.size_alloc] at hz
  have HB1 := Lib.hid hb; clear hb1 hb
  go_loopw [4, 5] (fun v i wr => ∃ k : Nat, k ≤ 256 ∧ i = .int .i64 k ∧ Below w.heap.size w wr ∧ w.heap.size < w1.heap.size ∧
      wr.heap[w1.heap.size]? = some (.cells (setCells a.mem) 62 (0, 0)) ∧ wr.ownsRow w.heap.size 5 1 v (a.below k).length (u8s (a.below k))) (fun _ i _ => 256 - (intOf i).toNat)
  case atStart =>
    exact ⟨0, by omega, rfl, HB1.out.alloc (by omega) _, by omega, heap_new _ _, by rw [show a.below 0 = [] from rfl]; exact World.ownsRow_nil _ _ _ _⟩
  case round =>
    obtain ⟨k, hk, rfl, hB, hl, h2, hO⟩ := hrel
    by_cases hlt : k < 256
    · have c2 : wr.cell? ⟨w1.heap.size, k, none⟩ = some (.bool (a.mem k)) := by rw [cell_of_row _ _ _ _ _ _ h2, setCells_at _ _ hlt]
      have H2 := Lib.hid h2; have HO := Lib.hid hO; have HB := Lib.hid hB; have hs := hB.size; clear h2 hO hB
      cases hf : a.mem k
      · rw [hf] at c2
        have HF := Lib.hid hf; clear hf
        go_wp2
        go_roundw
        case rel => exact ⟨k + 1, by omega, by go_num, HB.out, hl, H2.out, by rw [Cls.below_no HF.out]; exact HO.out⟩
        case measure => simp [intOf]; omega
      · rw [hf] at c2
        have HF := Lib.hid hf; clear hf
        have hle := a.below_le k
        go_wp2_with (at_builtin; go_must (refine app1 w.heap.size rfl (.tmp 15) (.tmp 18) 26 5 (.int .u8 0) 1 1 rfl Try.underlying26 infoU8 rfl (by decide) _ _ _ #[.int .u8 (k : Int)] rfl (by simp [Value.oneCell']) rfl rfl HO.out HB.out hs (by omega) (by omega) ?_); intro g c w2 hO2 hB2 hk2 hs2)
        go_roundw
        case rel =>
          refine ⟨k + 1, by omega, by go_num, hB2, hl, hk2 _ _ H2.out (own_ne HO.out H2.out (by decide)), ?_⟩
          rw [Cls.below_yes HF.out, u8s_snoc, List.length_append]
          exact hO2
        case measure => simp [intOf]; omega
    · obtain rfl : k = 256 := by omega
      have H2 := Lib.hid h2; have HO := Lib.hid hO; have HB := Lib.hid hB; have hs := hB.size; clear h2 hO hB
      go_wp2
      go_ret
      exact ⟨_, rfl, HO.out, HB.out⟩
end Go.Proofs.Ytachpdeejificaa

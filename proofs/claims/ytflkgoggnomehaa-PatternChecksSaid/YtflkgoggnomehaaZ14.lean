import Derived.Below
import Derived.Deep.AppendLies
import Derived.Deep.Draws
import Derived.KernelRfl
import Derived.Laws.AppendOwn
import Derived.Laws.OwnMore
import Derived.Lib.Hide
import Derived.OwnWalk
import Derived.WalkKit
import Derived.Test.YtflkgoggnomehaaZ4
import Derived.Test.YtflkgoggnomehaaZ5
import Derived.Test.YtflkgoggnomehaaZ7
import Derived.Test.YtflkgoggnomehaaZ13
set_option linter.unusedVariables false
set_option linter.unusedSimpArgs false
namespace Go.Proofs.Ytflkgoggnomehaa.P
open Go.RowKit Go.Proofs.YtflkgoggnomehaaW.PrintWords Go.Proofs.YtflkgoggnomehaaW.PrintLast
def nl (l : List Nat) : List Int := l.map fun (n : Nat) => (n : Int)
def tb (l : List Nat) : ByteArray := ⟨(l.map fun n => UInt8.ofNat n).toArray⟩
theorem tb_append (l m : List Nat) : tb (l ++ m) = tb l ++ tb m := by
  unfold tb
  apply ByteArray.ext
  simp
theorem tb_size (l : List Nat) : (tb l).size = l.length := by simp [tb, ByteArray.size]
theorem nl_append (l m : List Nat) : nl (l ++ m) = nl l ++ nl m := by simp [nl]
theorem nl_len (l : List Nat) : (nl l).length = l.length := by simp [nl]
theorem str_nl (l : List Nat) : strOfNums (nl l) = tb l := by unfold strOfNums nl tb; rw [List.map_map]; rfl
theorem bytes_tb {l : List Nat} (h : ∀ n ∈ l, n < 256) : bytesOf (tb l) = nl l := by
  unfold bytesOf tb nl
  simp only [List.map_map]
  refine List.map_congr_left fun n hn => ?_
  have := h n hn
  simp [Function.comp, Nat.mod_eq_of_lt this]
theorem spelling_all : ∀ b : Fin 256, class_spelling.f 3 (b.val : Int) = some (tb (spellL b.val)) := by decide +kernel
theorem spelledR_all : ∀ b : Fin 256, dowelref03_spelled.f 3 (b.val : Int) = some (tb (spellL b.val)) := by decide +kernel
theorem spell_lt_all : ∀ b : Fin 256, (spellL b.val).all (fun n => decide (n < 256)) = true := by decide +kernel
theorem spelling_f {k b : Nat} (hk : 3 ≤ k) (hb : b < 256) : class_spelling.f k (b : Int) = some (tb (spellL b)) := at_rounds (class_spelling.mono _) hk (spelling_all ⟨b, hb⟩)
theorem spelledR_f {k b : Nat} (hk : 3 ≤ k) (hb : b < 256) : dowelref03_spelled.f k (b : Int) = some (tb (spellL b)) := at_rounds (dowelref03_spelled.mono _) hk (spelledR_all ⟨b, hb⟩)
theorem spell_lt {b : Nat} (hb : b < 256) : ∀ n ∈ spellL b, n < 256 := fun n hn => by simpa using List.all_eq_true.1 (spell_lt_all ⟨b, hb⟩) n hn
theorem spell_len (b : Nat) : (spellL b).length ≤ 4 := by
  unfold spellL
  repeat' split
  all_goals simp
def rS (L : List (Nat × Nat)) : List S158 := L.map fun p => (⟨(p.1 : Int), (p.2 : Int)⟩ : S158)
theorem rS_len (L : List (Nat × Nat)) : (rS L).length = L.length := by simp [rS]
theorem rS_at {L : List (Nat × Nat)} {j : Nat} (hj : j < L.length) : Q20 (rS L) (j : Int) = ⟨((L[j]'hj).1 : Int), ((L[j]'hj).2 : Int)⟩ := by
  show (rS L).getD (Int.toNat (j : Int)) _ = _
  rw [Int.toNat_natCast, List.getD_eq_getElem?_getD]
  unfold rS
  rw [List.getElem?_map, List.getElem?_eq_getElem hj]
  rfl
theorem wr_j {j : Nat} (h : j < 9223372036854775807) : wrap64 ((j : Int) + 1) = ((j + 1 : Nat) : Int) := by unfold wrap64; omega
theorem textR_drop {L : List (Nat × Nat)} {j : Nat} (hj : j < L.length) : textR (L.drop j) = rngT (L[j]'hj) ++ textR (L.drop (j + 1)) := by
  rw [List.drop_eq_getElem_cons hj]
  unfold textR
  rw [List.flatMap_cons]
theorem text_l0 (L : List (Nat × Nat)) (hL : ∀ r ∈ L, r.1 ≤ r.2 ∧ r.2 < 256) (hn : L.length ≤ 256) : ∀ (d k j : Nat) (acc : List Nat), L.length - j = d → j ≤ L.length → d + 5 < k → acc.length + 12 * d < 140737488355320 →
    class_Text.l0 k (nl acc) (rS L) (L.length : Int) (j : Int) = some (tb (acc ++ (textR (L.drop j) ++ [93])))
  | 0, k, j, acc, hd, hj, hk, ha => by
    obtain ⟨k, rfl⟩ : ∃ m, k = m + 1 := ⟨k - 1, by omega⟩
    have e : L.drop j = [] := List.drop_eq_nil_of_le (by omega)
    simp only [class_Text.l0]
    rw [if_neg (by omega), nl_len, if_pos (by omega), e]
    have : nl acc ++ [93] = nl (acc ++ [93]) := by rw [nl_append]; rfl
    rw [this, str_nl]
    rfl
  | d + 1, k, j, acc, hd, hj, hk, ha => by
    obtain ⟨k, rfl⟩ : ∃ m, k = m + 1 := ⟨k - 1, by omega⟩
    have hlt : j < L.length := by omega
    have hr := hL _ (List.getElem_mem hlt)
    have hat := rS_at hlt
    rw [textR_drop hlt]
    generalize L[j]'hlt = r at hr hat
    obtain ⟨lo, hi⟩ := r
    dsimp only at hr hat
    have s1 := spelling_f (k := k) (b := lo) (by omega) (by omega)
    have s2 := spelling_f (k := k) (b := hi) (by omega) (by omega)
    have l1 := spell_len lo
    have l2 := spell_len hi
    have b1 := bytes_tb (spell_lt (b := lo) (by omega))
    have b2 := bytes_tb (spell_lt (b := hi) (by omega))
    have hm : (((hi : Int) - (lo : Int)) % 256) = (hi : Int) - lo := by omega
    simp only [class_Text.l0]
    rw [hat, rS_len]
    dsimp only
    rw [s1, s2, wr_j (by omega), if_pos (by omega), if_pos (by omega), if_pos (by omega), Option.bind_some, tb_size, nl_len, if_pos (by omega), Option.bind_some, b1, ← nl_append, nl_len, hm]
    unfold rngT
    dsimp only
    by_cases h1 : 1 < hi - lo
    · have e45 : nl (acc ++ spellL lo) ++ [45] = nl (acc ++ spellL lo ++ [45]) := by rw [nl_append (acc ++ spellL lo)]; rfl
      rw [if_pos (by omega), List.length_append, if_pos (by omega), Option.bind_some, if_pos (by omega), Option.bind_some, e45, nl_len, tb_size, b2, ← nl_append, List.length_append, List.length_append, List.length_singleton, if_pos (by omega)]
      rw [text_l0 L hL hn d k (j + 1) _ (by omega) (by omega) (by omega) (by simp only [List.length_append, List.length_singleton]; omega), if_pos h1, if_pos (by omega)]
      simp only [List.append_assoc]
    · rw [if_neg (by omega), if_neg h1]
      by_cases h2 : lo < hi
      · rw [if_pos (by omega), Option.bind_some, tb_size, b2, ← nl_append, List.length_append, if_pos (by omega)]
        rw [text_l0 L hL hn d k (j + 1) _ (by omega) (by omega) (by omega) (by simp only [List.length_append]; omega), if_pos h2]
        simp only [List.append_assoc, List.nil_append]
      · rw [if_neg (by omega)]
        rw [text_l0 L hL hn d k (j + 1) _ (by omega) (by omega) (by omega) (by simp only [List.length_append]; omega), if_neg h2]
        simp only [List.append_assoc, List.nil_append, List.append_nil]
theorem textR_l0 (L : List (Nat × Nat)) (hL : ∀ r ∈ L, r.1 ≤ r.2 ∧ r.2 < 256) (hn : L.length ≤ 256) : ∀ (d k j : Nat) (acc : List Nat), L.length - j = d → j ≤ L.length → d + 5 < k → acc.length + 12 * d < 140737488355320 →
    dowelref03_Text.l0 k (tb acc) (rS L) (j : Int) = some (tb (acc ++ (textR (L.drop j) ++ [93])))
  | 0, k, j, acc, hd, hj, hk, ha => by
    obtain ⟨k, rfl⟩ : ∃ m, k = m + 1 := ⟨k - 1, by omega⟩
    have e : L.drop j = [] := List.drop_eq_nil_of_le (by omega)
    simp only [dowelref03_Text.l0]
    rw [rS_len, if_neg (by omega), tb_size, if_pos (by omega), e]
    have : tb acc ++ (⟨#[93]⟩ : ByteArray) = tb (acc ++ [93]) := by rw [tb_append]; rfl
    rw [this]
    rfl
  | d + 1, k, j, acc, hd, hj, hk, ha => by
    obtain ⟨k, rfl⟩ : ∃ m, k = m + 1 := ⟨k - 1, by omega⟩
    have hlt : j < L.length := by omega
    have hr := hL _ (List.getElem_mem hlt)
    have hat := rS_at hlt
    rw [textR_drop hlt]
    generalize L[j]'hlt = r at hr hat
    obtain ⟨lo, hi⟩ := r
    dsimp only at hr hat
    have s1 := spelledR_f (k := k) (b := lo) (by omega) (by omega)
    have s2 := spelledR_f (k := k) (b := hi) (by omega) (by omega)
    have l1 := spell_len lo
    have l2 := spell_len hi
    have hm : (((hi : Int) - (lo : Int)) % 256) = (hi : Int) - lo := by omega
    have e45 : (⟨#[45]⟩ : ByteArray) = tb [45] := rfl
    simp only [dowelref03_Text.l0]
    rw [hat, rS_len]
    dsimp only
    rw [s1, s2, wr_j (by omega), if_pos (by omega), if_pos (by omega), Option.bind_some, tb_size, tb_size, if_pos (by omega), ← tb_append, hm, e45]
    unfold rngT
    dsimp only
    by_cases h1 : 1 < hi - lo
    · rw [if_pos (by omega), tb_size, List.length_append, if_pos (by omega), if_pos (by omega), Option.bind_some, ← tb_append, tb_size, tb_size, List.length_append, List.length_append, List.length_singleton, if_pos (by omega), ← tb_append]
      rw [textR_l0 L hL hn d k (j + 1) _ (by omega) (by omega) (by omega) (by simp only [List.length_append, List.length_singleton]; omega), if_pos h1, if_pos (by omega)]
      simp only [List.append_assoc]
    · rw [if_neg (by omega), if_neg h1]
      by_cases h2 : lo < hi
      · rw [if_pos (by omega), Option.bind_some, tb_size, tb_size, List.length_append, if_pos (by omega), ← tb_append]
        rw [textR_l0 L hL hn d k (j + 1) _ (by omega) (by omega) (by omega) (by simp only [List.length_append]; omega), if_pos h2]
        simp only [List.append_assoc, List.nil_append]
      · rw [if_neg (by omega)]
        rw [textR_l0 L hL hn d k (j + 1) _ (by omega) (by omega) (by omega) (by simp only [List.length_append]; omega), if_neg h2]
        simp only [List.append_assoc, List.nil_append, List.append_nil]
theorem ranges_len (a : Cls) : (rangesL a).length ≤ 256 := by
  have h := rangesOf_len _ (upto a 256) rfl
  have := upto_count a 256
  unfold rangesL
  omega
theorem text_f {a : Cls} (ha : a.ok) {k : Nat} (hk : 300 ≤ k) : class_Text.f k (a.c0 : Int) (a.c1 : Int) (a.c2 : Int) (a.c3 : Int) = some (tb (textC a)) := by
  obtain ⟨k, rfl⟩ : ∃ m, k = m + 1 := ⟨k - 1, by omega⟩
  have go : ∀ (b : Cls) (acc : List Nat), b.ok → acc.length ≤ 2 → class_Text.j0 (k + 1) (nl acc) (b.c0 : Int) (b.c1 : Int) (b.c2 : Int) (b.c3 : Int) = some (tb (acc ++ (textR (rangesL b) ++ [93]))) := by
    intro b acc hb hacc
    have hl := ranges_len b
    have hr : class_Ranges.f (b.c0 : Int) (b.c1 : Int) (b.c2 : Int) (b.c3 : Int) = some (rS (rangesL b)) := by
      unfold class_Ranges.f
      rw [if_pos (c4_ok hb), c4_cI]
      rfl
    simp only [class_Text.j0]
    rw [hr, Option.bind_some, rS_len]
    exact text_l0 (rangesL b) (good_ranges b).le hl (rangesL b).length k 0 acc (by omega) (by omega) (by omega) (by omega)
  have hc : class_Count.f (a.c0 : Int) (a.c1 : Int) (a.c2 : Int) (a.c3 : Int) = some (a.bytes.length : Int) := by
    unfold class_Count.f
    rw [if_pos (c4_ok ha), c4_cI]
  have hn : class_Not.f (a.c0 : Int) (a.c1 : Int) (a.c2 : Int) (a.c3 : Int) = some (c4 a.not) := by
    unfold class_Not.f
    rw [if_pos (c4_ok ha), c4_cI]
  unfold class_Text.f textC
  rw [Option.bind_some, hc, Option.bind_some]
  by_cases h : 128 < a.bytes.length
  · rw [if_pos (by omega), if_pos (by decide), hn, Option.bind_some, if_pos h]
    exact go a.not [91, 94] (Cls.ok_not _) (by decide)
  · rw [if_neg (by omega), if_neg h]
    exact go a [91] ha (by decide)
theorem textRef_f {a : Cls} (ha : a.ok) {k : Nat} (hk : 300 ≤ k) : dowelref03_Text.f k (a.c0 : Int) (a.c1 : Int) (a.c2 : Int) (a.c3 : Int) = some (tb (textC a)) := by
  obtain ⟨k, rfl⟩ : ∃ m, k = m + 1 := ⟨k - 1, by omega⟩
  have go : ∀ (b : Cls) (acc : List Nat), b.ok → acc.length ≤ 2 → dowelref03_Text.j0 (k + 1) (tb acc) (b.c0 : Int) (b.c1 : Int) (b.c2 : Int) (b.c3 : Int) = some (tb (acc ++ (textR (rangesL b) ++ [93]))) := by
    intro b acc hb hacc
    have hl := ranges_len b
    have hr : dowelref03_Ranges.f (b.c0 : Int) (b.c1 : Int) (b.c2 : Int) (b.c3 : Int) = some (rS (rangesL b)) := by
      unfold dowelref03_Ranges.f
      rw [if_pos (c4_ok hb), c4_cI]
      rfl
    simp only [dowelref03_Text.j0]
    rw [hr, Option.bind_some]
    exact textR_l0 (rangesL b) (good_ranges b).le hl (rangesL b).length k 0 acc (by omega) (by omega) (by omega) (by omega)
  have hc : dowelref03_Bytes.f (a.c0 : Int) (a.c1 : Int) (a.c2 : Int) (a.c3 : Int) = some (nl a.bytes) := by
    unfold dowelref03_Bytes.f
    rw [if_pos (c4_ok ha), c4_cI]
    rfl
  have hn : dowelref03_Not.f (a.c0 : Int) (a.c1 : Int) (a.c2 : Int) (a.c3 : Int) = some (c4 a.not) := by
    unfold dowelref03_Not.f
    rw [if_pos (c4_ok ha), c4_cI]
  unfold dowelref03_Text.f textC
  rw [hc, Option.bind_some, nl_len]
  by_cases h : 128 < a.bytes.length
  · rw [if_pos (by omega), hn, Option.bind_some, if_pos h]
    exact go a.not [91, 94] (Cls.ok_not _) (by decide)
  · rw [if_neg (by omega), if_neg h]
    exact go a [91] ha (by decide)
end Go.Proofs.Ytflkgoggnomehaa.P
set_option linter.unusedVariables false
set_option linter.unusedSimpArgs false
namespace Go.Proofs.Ytflkgoggnomehaa.Fr
open Go.RowKit
variable {W W' w : World} {base : Nat} {e : TypeId} {size : Nat} {v x : Value} {n m : Nat} {xs ys : List Value}
/-- A slice's cells as they are told: nil, or the head of a block. -/
def Told (W : World) (base : Nat) (e : TypeId) (size : Nat) (v : Value) (n : Nat) (xs : List Value) : Prop :=
  xs.length = n * size ∧ ((v = .slice none 0 0 ∧ n = 0) ∨ ∃ g cap cur, v = .slice (some ⟨g, 0, none⟩) n cap ∧ n ≤ cap ∧ base ≤ g ∧ W.heap[g]? = some (.cells cur e (0, 0)) ∧ cur.toList.take (n * size) = xs)
theorem told_own (h : W.ownsRow base e size v n xs) : Told W base e size v n xs := by
  refine ⟨h.1, ?_⟩
  rcases h.2 with q | ⟨g, cap, cur, hv, hb, hg, hn, _, _, ht⟩
  · exact .inl q
  · exact .inr ⟨g, cap, cur, hv, hn, hb, hg, ht⟩
theorem Told.move (h : Told W base e size v n xs) (hm : ∀ g, v.ownBlock = some g → W'.heap[g]? = W.heap[g]?) : Told W' base e size v n xs := by
  refine ⟨h.1, ?_⟩
  rcases h.2 with q | ⟨g, cap, cur, hv, hn, hb, hg, ht⟩
  · exact .inl q
  · exact .inr ⟨g, cap, cur, hv, hn, hb, (hm g (by rw [hv]; rfl)).trans hg, ht⟩
theorem own_move (h : W.ownsRow base e size v n xs) (hm : ∀ g, v.ownBlock = some g → W'.heap[g]? = W.heap[g]?) : W'.ownsRow base e size v n xs := by
  refine ⟨h.1, ?_⟩
  rcases h.2 with q | ⟨g, cap, cur, hv, hb, hg, r⟩
  · exact .inl q
  · exact .inr ⟨g, cap, cur, hv, hb, (hm g (by rw [hv]; rfl)).trans hg, r⟩
theorem Told.lt (h : Told W base e size v n xs) {g : Nat} (hg : v.ownBlock = some g) : base ≤ g ∧ g < W.heap.size ∧ ∃ cur, W.heap[g]? = some (.cells cur e (0, 0)) := by
  rcases h.2 with ⟨rfl, _⟩ | ⟨g', cap, cur, rfl, _, hb, hh, _⟩
  · simp [Value.ownBlock] at hg
  · obtain rfl : g' = g := by simpa [Value.ownBlock] using hg
    refine ⟨hb, ?_, cur, hh⟩
    rcases Nat.lt_or_ge g' W.heap.size with q | q
    · exact q
    · simp [Array.getElem?_eq_none q] at hh
theorem Told.form (h : Told W base e size v n xs) : ∃ A c, v = .slice A n c := by
  rcases h.2 with ⟨rfl, rfl⟩ | ⟨g, cap, cur, rfl, _⟩
  · exact ⟨_, _, rfl⟩
  · exact ⟨_, _, rfl⟩
theorem Told.cons (h : Told W base e size v n xs) (hn : 0 < n) : ∃ g c, v = .slice (some ⟨g, 0, none⟩) n c ∧ n ≤ c := by
  rcases h.2 with ⟨_, rfl⟩ | ⟨g, cap, cur, rfl, hc, _⟩
  · omega
  · exact ⟨g, cap, rfl, hc⟩
theorem Told.cell {g c : Nat} (h : Told W base e size (.slice (some ⟨g, 0, none⟩) n c) n xs) (j : Nat) (hj : j < n * size) : W.cell? ⟨g, j, none⟩ = xs[j]? := by
  rcases h.2 with ⟨h', _⟩ | ⟨g', cap', cur, h', _, _, hg, htake⟩
  · simp at h'
  · simp only [Value.slice.injEq, Option.some.injEq, Addr.mk.injEq, and_true, true_and] at h'
    obtain ⟨rfl, rfl⟩ := h'
    rw [cell_of_row W g j cur e (0, 0) hg, ← htake, List.getElem?_take, if_pos hj]
    simp
/-- Some elements, one behind the other. -/
def reps (n : Nat) (c : List Value) : List Value := (List.replicate n c).flatten
/-- All but some blocks stay. -/
structure Oth (S : Nat → Prop) (w W : World) : Prop where
  os : W.os = w.os
  tape : W.tape = w.tape
  output : W.output = w.output
  size : w.heap.size ≤ W.heap.size
  block : ∀ b, b < w.heap.size → ¬ S b → W.heap[b]? = w.heap[b]?
theorem Oth.refl (S : Nat → Prop) (w : World) : Oth S w w := ⟨rfl, rfl, rfl, Nat.le_refl _, fun _ _ _ => rfl⟩
theorem Oth.trans {S : Nat → Prop} {a b c : World} (h : Oth S a b) (k : Oth S b c) : Oth S a c :=
  ⟨k.os.trans h.os, k.tape.trans h.tape, k.output.trans h.output, Nat.le_trans h.size k.size, fun i hi hs => (k.block i (Nat.lt_of_lt_of_le hi h.size) hs).trans (h.block i hi hs)⟩
theorem Oth.alloc {S : Nat → Prop} {a b : World} (h : Oth S a b) (o : Obj) : Oth S a (b.alloc o) :=
  ⟨h.os, h.tape, h.output, Nat.le_trans h.size (by simp), fun i hi hs => ((World.grownBy_alloc b o none).block i (Nat.lt_of_lt_of_le hi h.size) (by simp)).trans (h.block i hi hs)⟩
theorem Oth.drew {S : Nat → Prop} {a b : World} (h : Oth S a b) : Oth S a b.drew := ⟨h.os, h.tape, h.output, h.size, h.block⟩
theorem Oth.drewN {S : Nat → Prop} {a b : World} (h : Oth S a b) (n : Nat) : Oth S a (b.drewN n) := ⟨h.os, h.tape, h.output, h.size, h.block⟩
theorem Oth.set {S : Nat → Prop} {a b : World} (h : Oth S a b) {p : Addr} (hp : S p.block ∨ a.heap.size ≤ p.block) (u : Value) : Oth S a (b.setCell p u) :=
  ⟨h.os, h.tape, h.output, by have := h.size; simpa using this, fun i hi hs => (heap_setCell_other b p i u (fun e => by rcases hp with q | q; exact hs (by rw [e]; exact q); omega)).trans (h.block i hi hs)⟩
theorem Oth.grown {S : Nat → Prop} {a b c : World} (h : Oth S a b) {row : Option Nat} (hg : b.grownBy c row) (hr : ∀ k, row = some k → S k ∨ a.heap.size ≤ k) : Oth S a c :=
  ⟨hg.os.trans h.os, hg.tape.trans h.tape, hg.output.trans h.output, Nat.le_trans h.size hg.size, fun i hi hs => (hg.block i (Nat.lt_of_lt_of_le hi h.size) (fun e => by rcases hr i e.symm with q | q; exact hs q; omega)).trans (h.block i hi hs)⟩
theorem Oth.below {S : Nat → Prop} {a b c : World} (h : Oth S a b) (hb : Below b.heap.size b c) : Oth S a c :=
  ⟨hb.os.trans h.os, hb.tape.trans h.tape, hb.output.trans h.output, Nat.le_trans h.size hb.size, fun i hi hs => (hb.block i (Nat.lt_of_lt_of_le hi h.size)).trans (h.block i hi hs)⟩
theorem Oth.to {S : Nat → Prop} {a b : World} {B : Nat} (h : Oth S a b) (hS : ∀ k, S k → B ≤ k) (hB : B ≤ a.heap.size) : Below B a b :=
  ⟨h.os, h.tape, h.output, h.size, fun i hi => h.block i (Nat.lt_of_lt_of_le hi hB) (fun hs => by have := hS i hs; omega)⟩
theorem Oth.mono {S T : Nat → Prop} {a b : World} (h : Oth S a b) (hS : ∀ k, S k → T k) : Oth T a b := ⟨h.os, h.tape, h.output, h.size, fun i hi hs => h.block i hi (fun q => hs (hS i q))⟩
end Go.Proofs.Ytflkgoggnomehaa.Fr
set_option linter.unusedVariables false
set_option linter.unusedSimpArgs false
namespace Go.Proofs.Ytflkgoggnomehaa.Fr
open Go.RowKit
theorem heap_lt' {W : World} {b : Nat} {o : Obj} (h : W.heap[b]? = some o) : b < W.heap.size := by
  rcases Nat.lt_or_ge b W.heap.size with q | q
  · exact q
  · simp [Array.getElem?_eq_none q] at h
theorem bcell {W w1 : World} (hb : Below W.heap.size W w1) : (∀ b o, b < W.heap.size → w1.cell? ⟨b, o, none⟩ = W.cell? ⟨b, o, none⟩) ∧ (∀ b o, b < W.heap.size → w1.frozen? ⟨b, o, none⟩ = W.frozen? ⟨b, o, none⟩) :=
  ⟨fun b o h => hb.cell (p := ⟨b, o, none⟩) h, fun b o h => hb.frozen (p := ⟨b, o, none⟩) h⟩
/-- Cells stored one behind the other. -/
def setL (g : Nat) : World → Nat → List Value → World
  | W, _, [] => W
  | W, o, u :: us => setL g (W.setCell ⟨g, o, none⟩ u) (o + 1) us
def setList (xs : List Value) : Nat → List Value → List Value
  | _, [] => xs
  | o, u :: us => setList (xs.set o u) (o + 1) us
theorem setL_own {B : Nat} {e : TypeId} {size n c g : Nat} : ∀ (us : List Value) (o : Nat) (W : World) (xs : List Value), W.ownsRow B e size (.slice (some ⟨g, 0, none⟩) n c) n xs →
    (setL g W o us).ownsRow B e size (.slice (some ⟨g, 0, none⟩) n c) n (setList xs o us) ∧ W.grownBy (setL g W o us) (some g)
  | [], o, W, xs, h => ⟨h, World.grownBy.refl _ _⟩
  | u :: us, o, W, xs, h => by
    have h1 := h.stored o u
    have h2 := setL_own us (o + 1) _ _ h1.1
    exact ⟨h2.1, ⟨h2.2.os.trans h1.2.os, h2.2.tape.trans h1.2.tape, h2.2.output.trans h1.2.output, Nat.le_trans h1.2.size h2.2.size, fun k hk hs => (h2.2.block k (Nat.lt_of_lt_of_le hk h1.2.size) hs).trans (h1.2.block k hk hs)⟩⟩
theorem setList_mid : ∀ (us ls bs cs : List Value) (o : Nat), o = ls.length → bs.length = us.length → setList (ls ++ (bs ++ cs)) o us = ls ++ (us ++ cs)
  | [], ls, bs, cs, o, ho, hb => by rw [List.eq_nil_of_length_eq_zero hb]; rfl
  | u :: us, ls, [], cs, o, ho, hb => by simp at hb
  | u :: us, ls, b :: bs, cs, o, ho, hb => by
    subst ho
    have e : (ls ++ (b :: bs ++ cs)).set ls.length u = (ls ++ [u]) ++ (bs ++ cs) := by
      rw [List.set_append_right _ _ (Nat.le_refl _)]
      simp
    unfold setList
    rw [e, setList_mid us (ls ++ [u]) bs cs _ (by simp) (by simpa using hb)]
    simp
section
variable {w : World} {m B : Nat} {e : TypeId} {size : Nat} {rv : Nat → Value} {rn : Nat → Nat} {mk mo : Nat → List Value}
/-- The rows' blocks. -/
def Sr (m : Nat) (rv : Nat → Value) (b : Nat) : Prop := ∃ j, j < m ∧ (rv j).ownBlock = some b
/-- Rows below i have been grown; ys are their copies. -/
structure Grown (w : World) (m B : Nat) (e t : TypeId) (size N : Nat) (rv : Nat → Value) (rn : Nat → Nat) (mk mo : Nat → List Value) (i : Nat) (gv : Value) (ys : List Value) (W : World) : Prop where
  oth : Oth (Sr m rv) w W
  rest : ∀ j, i ≤ j → j < m → W.ownsRow B e size (rv j) (rn j) (reps (rn j) (mk j))
  told : ∀ j, j < i → j < m → Told W B e size (rv j) (rn j) (reps (rn j) (mk j))
  copy : ∀ j y, ys[j]? = some y → Told W B e size y (rn j + N) (reps (rn j) (mk j) ++ reps N (mo j)) ∧ ∀ b, y.ownBlock = some b → ∀ j', i ≤ j' → j' < m → (rv j').ownBlock ≠ some b
  all : W.ownsRow w.heap.size t 1 gv ys.length ys
  len : ys.length = i
end
end Go.Proofs.Ytflkgoggnomehaa.Fr
set_option linter.unusedVariables false
set_option linter.unusedSimpArgs false
namespace Go.Proofs.Ytflkgoggnomehaa.Ct
open Go.RowKit Go.Shelf Go.Proofs.Ytflkgoggnomehaa Go.Proofs.Ytflkgoggnomehaa.P Go.Proofs.Ytflkgoggnomehaa.Sp
attribute [local go_sem] Oper.semAt_some
theorem below_upto (a : Cls) : ∀ k, k ≤ 256 → a.below k = (upto a k).map fun x => x.val
  | 0, _ => rfl
  | k + 1, h => by
    have ih := below_upto a k (by omega)
    have e : a.below (k + 1) = a.below k ++ (if a.mem k = true then [k] else []) := by
      unfold Cls.below
      rw [List.range_succ, List.filter_append]
      congr 1
      simp only [List.filter_cons, List.filter_nil]
    rw [e, ih]
    by_cases q : a.mem k = true
    · rw [if_pos q, upto_yes a k (by omega) q]; simp
    · rw [if_neg q, upto_no a k (by simpa using q)]; simp
/-- A class's text in a pattern. -/
def classText (a : Cls) : ByteArray := match a.bytes with
  | [b] => spellF (b : Int)
  | _ => if a.bytes.length = 256 then ⟨#[46]⟩ else tb (textC a)
theorem classText_one {a : Cls} {x : Fin 256} (h1 : a.bytes.length = 1) (h : [x] <+: upto a 256) : classText a = spellF ((x.val : Nat) : Int) := by
  have hb : a.bytes = (upto a 256).map fun x => x.val := below_upto a 256 (Nat.le_refl _)
  obtain ⟨t, ht⟩ := h
  rw [← ht] at hb
  have : t = [] := by
    rw [hb] at h1
    simp at h1
    exact h1
  rw [this] at hb
  unfold classText
  rw [hb]
  rfl
theorem upto_len (a : Cls) : (upto a 256).length = a.bytes.length := by
  have hb : a.bytes = (upto a 256).map fun x => x.val := below_upto a 256 (Nat.le_refl _)
  rw [hb, List.length_map]
theorem one_cell' {W : World} {g : Nat} {v : Value} {ty : TypeId} (h : W.heap[g]? = some (.cells #[v] ty (0, 0))) : W.cell? ⟨g, 0, none⟩ = some v ∧ W.frozen? ⟨g, 0, none⟩ = false := by
  constructor
  · simp [World.cell?, h]
  · simp [World.frozen?, h]
def CI (w : World) (bs : Nat) (a : Cls) (pre : List (Fin 256)) (W : World) : Prop := (pre = [] ∧ W.heap[w.heap.size + 1]? = some (.cells #[.string ⟨#[]⟩] 9 (0, 0)) ∧ W.heap[bs]? = some (.cells a.cells 43 (0, 0))) ∧ Below w.heap.size w W
def CX (w : World) (co : Code) (pre : List (Fin 256)) (W : World) : Prop := co = .ret ∧ ∃ x : Fin 256, pre = [x] ∧ W.heap[w.heap.size + 1]? = some (.cells #[.string (spellF ((x.val : Nat) : Int))] 9 (0, 0)) ∧ Below w.heap.size w W
theorem ci_own {w : World} {bs B : Nat} {a : Cls} (hB : w.heap.size ≤ B) : OwnFrom B (CI w bs a) :=
  OwnFrom.and (OwnFrom.and (ownFrom_pure _ _) (OwnFrom.and (Own.from (block_own _ _ _) _) (Own.from (block_own _ _ _) _))) (ownFrom_below (Nat.le_refl _) hB)
theorem cx_own {w : World} {B : Nat} (hB : w.heap.size ≤ B) (co : Code) : OwnFrom B (CX w co) := by
  rintro pre X Y row ⟨e, x, h1, h2, h3⟩ hg hr
  exact ⟨e, x, h1, block_own (β := Unit) _ _ _ () X Y row h2 hg (fun r e => (hr r e).2), ownFrom_below (β := Unit) (Nat.le_refl _) hB () X Y row h3 hg hr⟩
set_option maxRecDepth 100000 in
set_option maxHeartbeats 4000000 in
theorem classText_in (n : Nat) (hn : 3 ≤ n) (a : Cls) (ha : a.ok) (h1c : a.bytes.length = 1) (w : World) :
    CallsIn Fence.wide n Try.prog 45 #[V4 a] w fun e W' => e = .returned (.string (classText a)) ∧ Below w.heap.size w W' := by
  have h1 : 1 ≤ n := by omega
  have HC1 := Lib.hid h1c
  clear h1c
  refine callsIn_of_wp_marks Try.func45 rfl trivial ?_ rfl
  simp only [Try.ntmps45, List.size_toArray, List.length_cons, List.length_nil, Nat.reduceAdd, Nat.reduceSub, Array.replicate_succ, Array.replicate_zero, List.push_toArray, List.append_toArray, List.nil_append, List.cons_append]
  have hb0 : Below w.heap.size w ((w.alloc (.cells #[.int .u64 (a.c0 : Int), .int .u64 (a.c1 : Int), .int .u64 (a.c2 : Int), .int .u64 (a.c3 : Int)] 43)).alloc (.cells #[.string ⟨#[]⟩] 9)) := ((Below.refl _ w).alloc (Nat.le_refl _) _).alloc (by simp) _
  have hsz0 : ((w.alloc (.cells #[.int .u64 (a.c0 : Int), .int .u64 (a.c1 : Int), .int .u64 (a.c2 : Int), .int .u64 (a.c3 : Int)] 43)).alloc (.cells #[.string ⟨#[]⟩] 9)).heap.size = w.heap.size + 1 + 1 := by simp
  have hcl : ((w.alloc (.cells #[.int .u64 (a.c0 : Int), .int .u64 (a.c1 : Int), .int .u64 (a.c2 : Int), .int .u64 (a.c3 : Int)] 43)).alloc (.cells #[.string ⟨#[]⟩] 9)).heap[w.heap.size]? = some (.cells #[.int .u64 (a.c0 : Int), .int .u64 (a.c1 : Int), .int .u64 (a.c2 : Int), .int .u64 (a.c3 : Int)] 43 (0, 0)) := heap_keep (heap_new w _)
  have hst : ((w.alloc (.cells #[.int .u64 (a.c0 : Int), .int .u64 (a.c1 : Int), .int .u64 (a.c2 : Int), .int .u64 (a.c3 : Int)] 43)).alloc (.cells #[.string ⟨#[]⟩] 9)).heap[w.heap.size + 1]? = some (.cells #[.string ⟨#[]⟩] 9 (0, 0)) := heap_new1 w _ _
  have HS0 := Lib.hid hsz0
  have HCL := Lib.hid hcl
  have HST := Lib.hid hst
  clear hsz0 hcl hst
  gi_wp2_with fail
  refine ⟨trivial, ?_⟩
  refine (callsIn_wide.2 (count_c a ha _)).mono ?_
  rintro e w1 ⟨rfl, hb1⟩
  have hcl1 := heap_same hb1 HCL.out
  have hst1 := heap_same hb1 HST.out
  have hsz1 : w.heap.size + 1 + 1 ≤ w1.heap.size := by have := hb1.size; rw [HS0.out] at this; exact this
  have HB1 := Lib.hid (hb0.trans (hb1.mono (by rw [HS0.out]; omega)))
  clear hb1 hb0 HCL HST HS0
  obtain ⟨⟨c0, c1, c2, c3⟩, f0, f1, f2, f3⟩ := four_cells hcl1
  have HCL1 := Lib.hid hcl1
  have HST1 := Lib.hid hst1
  clear hcl1 hst1
  have b1 : ((a.bytes.length : Int) == 1) = true := by rw [HC1.out]; rfl
  gi_wp2_with fail
  refine ⟨trivial, ?_⟩
  refine (each_in (n - 1) a _).mono ?_
  rintro e w' ⟨rfl, rfl⟩
  gi_wp2_with fail
  have hcell : (w1.alloc (.cells a.cells 43)).heap[w1.heap.size]? = some (.cells a.cells 43 (0, 0)) := heap_new w1 _
  have hstr : (w1.alloc (.cells a.cells 43)).heap[w.heap.size + 1]? = some (.cells #[.string ⟨#[]⟩] 9 (0, 0)) := heap_keep HST1.out
  have hB0 : Below w.heap.size w (w1.alloc (.cells a.cells 43)) := HB1.out.alloc (by omega) _
  have hsz : (w1.alloc (.cells a.cells 43)).heap.size = w1.heap.size + 1 := by simp
  refine wpIn_rangeFunc_ownG rfl h1 (gf := 89) (lb := #[.pointer (some ⟨w1.heap.size, 0, none⟩)]) rfl trivial (enters_of Try.func89 (by kernel_rfl) rfl)
    (each_stops (n - 1) (by omega) w1.heap.size a ha _ (by simp) hcell) kpB_t (kpB_b (by simp)) (Below.refl _ _) (fun _ => rfl)
    (CI w w1.heap.size a) (CX w) (ci_own (by omega)) (cx_own (by omega)) ⟨⟨rfl, hstr, hcell⟩, hB0⟩
    (fun x => { tmps := #[V4 a, .pointer (some ⟨w.heap.size, 0, none⟩), .pointer (some ⟨w.heap.size + 1, 0, none⟩), .int .u8 ((x.val : Nat) : Int), .agg #[.int .u64 (a.c0 : Int), .int .u64 (a.c1 : Int), .int .u64 (a.c2 : Int), .int .u64 (a.c3 : Int)], .int .i64 (a.bytes.length : Int), .bool true, .bool true, .agg #[.int .u64 (a.c0 : Int), .int .u64 (a.c1 : Int), .int .u64 (a.c2 : Int), .int .u64 (a.c3 : Int)], .func (.func 89) #[] #[.pointer (some ⟨w1.heap.size, 0, none⟩)], .int .u8 ((x.val : Nat) : Int), undef, undef, undef, undef, undef, undef], defers := [] }) ?assign ?body ?done ?stop
  case assign =>
    intro l x W K hK
    gi_wp2
    exact hK
  case body =>
    rintro l pre x W ⟨⟨rfl, hS, hC⟩, hB⟩ hlt
    have hx := x.isLt
    have HX := Lib.hid hS
    have HBb := Lib.hid hB
    clear hS hB hC
    gi_wp2_with fail
    refine ⟨trivial, fun _ => by omega, ?_⟩
    refine (CallsIn.inRound l (callsIn_wide.2 (spell_c x.val hx W))).mono ?_
    rintro e w3 ⟨rfl, hb3⟩
    have hS3 := heap_same hb3 HX.out
    have hlt3 := heap_lt HX.out
    obtain ⟨c0, f0⟩ := one_cell' hS3
    have HS3 := Lib.hid hS3
    have HB3 := Lib.hid hb3
    clear hS3 hb3
    dsimp only
    gi_wp2
    exact ⟨((show KeepsOthers W w3 from ⟨HB3.out.size, fun k o h _ => (HB3.out.block k (heap_lt h)).trans h⟩).trans (KeepsOthers.setCell _ _ _)).from _, rfl, x, rfl, by simpa using heap_put (i := 0) HS3.out, (HBb.out.trans (HB3.out.mono HBb.out.size)).setCell (by dsimp only; omega) _⟩
  case done =>
    rintro D ys W hD rfl ⟨⟨he, hS, hC⟩, hB⟩ hK
    have := upto_len a
    rw [he, HC1.out] at this
    cases this
  case stop =>
    rintro D c pre W hD hp ⟨rfl, x, rfl, hS, hB⟩ hK
    have hres := classText_one HC1.out hp
    have HRES := Lib.hid hres
    clear hres
    obtain ⟨c0, f0⟩ := one_cell' hS
    gi_wp2
    refine ⟨by simp, .inl ⟨_, _, rfl, run_takeDeferred hK, ?_⟩⟩
    have hgp := fun {p : Addr} {v : Value} (h : W.cell? p = some v) => cell_kept h (grownBy_putObj' _ D (.deferred none)) (fun r e => by cases e; exact ⟨_, hK, rfl⟩)
    have x0 := hgp c0
    have hsz := hB.size
    exact ⟨_, by simp [results, Try.results45, go_sem, x0]; rfl, by rw [HRES.out], hB.trans (belowK_b (w := w) (Nat.le_refl _) _ D _ _ (by omega) hK rfl rfl)⟩
theorem classText_all {a : Cls} (h1 : a.bytes.length ≠ 1) : classText a = if a.bytes.length = 256 then ⟨#[46]⟩ else tb (textC a) := by
  unfold classText
  split
  · next b hb => rw [hb] at h1; exact absurd rfl h1
  · rfl
set_option maxRecDepth 100000 in
set_option maxHeartbeats 2000000 in
theorem classText_c (a : Cls) (ha : a.ok) (w : World) : Calls Try.prog 45 #[V4 a] w fun e W' => e = .returned (.string (classText a)) ∧ Below w.heap.size w W' := by
  by_cases h1 : a.bytes.length = 1
  · exact callsIn_wide.1 (classText_in 3 (Nat.le_refl _) a ha h1 w)
  have HR := Lib.hid (classText_all h1)
  have b1 : ((a.bytes.length : Int) == 1) = false := by simp; omega
  clear h1
  have hb0 : Below w.heap.size w ((w.alloc (.cells #[.int .u64 (a.c0 : Int), .int .u64 (a.c1 : Int), .int .u64 (a.c2 : Int), .int .u64 (a.c3 : Int)] 43)).alloc (.cells #[.string ⟨#[]⟩] 9)) := ((Below.refl _ w).alloc (Nat.le_refl _) _).alloc (by simp) _
  have hsz0 : ((w.alloc (.cells #[.int .u64 (a.c0 : Int), .int .u64 (a.c1 : Int), .int .u64 (a.c2 : Int), .int .u64 (a.c3 : Int)] 43)).alloc (.cells #[.string ⟨#[]⟩] 9)).heap.size = w.heap.size + 1 + 1 := by simp
  have hcl : ((w.alloc (.cells #[.int .u64 (a.c0 : Int), .int .u64 (a.c1 : Int), .int .u64 (a.c2 : Int), .int .u64 (a.c3 : Int)] 43)).alloc (.cells #[.string ⟨#[]⟩] 9)).heap[w.heap.size]? = some (.cells #[.int .u64 (a.c0 : Int), .int .u64 (a.c1 : Int), .int .u64 (a.c2 : Int), .int .u64 (a.c3 : Int)] 43 (0, 0)) := heap_keep (heap_new w _)
  have hst : ((w.alloc (.cells #[.int .u64 (a.c0 : Int), .int .u64 (a.c1 : Int), .int .u64 (a.c2 : Int), .int .u64 (a.c3 : Int)] 43)).alloc (.cells #[.string ⟨#[]⟩] 9)).heap[w.heap.size + 1]? = some (.cells #[.string ⟨#[]⟩] 9 (0, 0)) := heap_new1 w _ _
  have HS0 := Lib.hid hsz0
  have HCL := Lib.hid hcl
  have HST := Lib.hid hst
  clear hsz0 hcl hst
  have hT := fun W => class_Text.calls 300 _ _ _ _ _ W (text_f ha (Nat.le_refl 300))
  have HT := Lib.hid hT
  clear hT
  go_enter Try.func45, Try.ntmps45
  go_wp2_with fail
  refine (count_c a ha _).mono ?_
  rintro e w1 ⟨rfl, hb1⟩
  have hcl1 := heap_same hb1 HCL.out
  have hst1 := heap_same hb1 HST.out
  have hsz1 : w.heap.size + 1 + 1 ≤ w1.heap.size := by have := hb1.size; rw [HS0.out] at this; exact this
  have HB1 := Lib.hid (hb0.trans (hb1.mono (by rw [HS0.out]; omega)))
  clear hb1 hb0 HCL HST HS0
  obtain ⟨⟨c0, c1, c2, c3⟩, f0, f1, f2, f3⟩ := four_cells hcl1
  obtain ⟨d0, g0⟩ := one_cell' hst1
  have HST1 := Lib.hid hst1
  clear hcl1 hst1
  by_cases h2 : a.bytes.length = 256
  · have b2 : ((a.bytes.length : Int) == 256) = true := by rw [h2]; rfl
    have H2 := Lib.hid h2
    clear h2
    go_wp2
    have y0 : (w1.setCell ⟨w.heap.size + 1, 0, none⟩ (.string ⟨#[46]⟩)).cell? ⟨w.heap.size + 1, 0, none⟩ = some (.string ⟨#[46]⟩) := (one_cell' (ty := 9) (by simpa using heap_put (i := 0) HST1.out)).1
    exact bodyPost_ret (v := .string ⟨#[46]⟩) (by simp [results, Try.results45, go_sem, y0]) rfl ⟨by rw [HR.out, if_pos H2.out], HB1.out.setCell (by dsimp only; omega) _⟩
  · have b2 : ((a.bytes.length : Int) == 256) = false := by simp; omega
    have H2 := Lib.hid h2
    clear h2
    go_wp2_with fail
    refine (HT.out _).mono ?_
    rintro e w2 ⟨rfl, hb2⟩
    have hst2 := heap_same hb2 HST1.out
    obtain ⟨d1, g1⟩ := one_cell' hst2
    have y0 : (w2.setCell ⟨w.heap.size + 1, 0, none⟩ (.string (tb (textC a)))).cell? ⟨w.heap.size + 1, 0, none⟩ = some (.string (tb (textC a))) := (one_cell' (ty := 9) (by simpa using heap_put (i := 0) hst2)).1
    have HY := Lib.hid y0
    clear y0 hst2
    have HB2 := Lib.hid (HB1.out.trans (hb2.mono HB1.out.size))
    clear hb2 d0 g0 c0 c1 c2 c3 f0 f1 f2 f3
    go_wp2
    exact bodyPost_ret (v := .string (tb (textC a))) (by have y0 := HY.out; simp [results, Try.results45, go_sem, y0]) rfl ⟨by rw [HR.out, if_neg H2.out], HB2.out.setCell (by dsimp only; omega) _⟩
end Go.Proofs.Ytflkgoggnomehaa.Ct
set_option linter.unusedVariables false
set_option linter.unusedSimpArgs false
namespace Go.Proofs.Ytflkgoggnomehaa.Pt
open Go.RowKit Go.Proofs.Ytflkgoggnomehaa Go.Proofs.Ytflkgoggnomehaa.P
/-- A class's text in a pattern. -/
def clsT (c : Cl) : ByteArray := Ct.classText (cI c.f0 c.f1 c.f2 c.f3)
/-- A text, in brackets or not. -/
def brT (b : Nat) (s : List UInt8) : List UInt8 := if b = 1 then 40 :: (s ++ [41]) else s
/-- A tree's text. -/
def RT.txt : RT → List UInt8
  | .none => [126] | .empty => [40, 41] | .cls c => (clsT c).data.toList
  | .star a => brT a.row a.txt ++ [42]
  | .seq a b => brT a.row a.txt ++ brT b.isAlt b.txt
  | .alt a b => brT a.isAlt a.txt ++ (124 :: b.txt)
theorem brT_len (b : Nat) (s : List UInt8) : s.length ≤ (brT b s).length ∧ (brT b s).length ≤ s.length + 2 := by
  unfold brT
  split
  · simp only [List.length_cons, List.length_append, List.length_nil]; omega
  · omega
/-- A stack's texts come into what the stack comes to. -/
theorem stp_txt {n : S45} {st s : List RT} (h : stp n st = some s) : ∀ a ∈ st, ∃ b ∈ s, a.txt.length ≤ b.txt.length := by
  unfold stp at h
  by_cases h0 : n.f0 = 0
  · rw [if_pos h0] at h; obtain rfl := Option.some.inj h
    exact fun a ha => ⟨a, List.mem_cons_of_mem _ ha, Nat.le_refl _⟩
  rw [if_neg h0] at h
  by_cases h1 : n.f0 = 1
  · rw [if_pos h1] at h; obtain rfl := Option.some.inj h
    exact fun a ha => ⟨a, List.mem_cons_of_mem _ ha, Nat.le_refl _⟩
  rw [if_neg h1] at h
  by_cases h2 : n.f0 = 2
  · rw [if_pos h2] at h; obtain rfl := Option.some.inj h
    exact fun a ha => ⟨a, List.mem_cons_of_mem _ ha, Nat.le_refl _⟩
  rw [if_neg h2] at h
  by_cases h5 : n.f0 = 5
  · rw [if_pos h5] at h
    match st, h with
    | x :: r, h =>
      obtain rfl := Option.some.inj h
      intro a ha
      rcases List.mem_cons.1 ha with rfl | ha
      · refine ⟨.star a, List.mem_cons_self, ?_⟩
        have := brT_len a.row a.txt
        simp only [RT.txt, List.length_append]; omega
      · exact ⟨a, List.mem_cons_of_mem _ ha, Nat.le_refl _⟩
  rw [if_neg h5] at h
  by_cases h3 : n.f0 = 3
  · rw [if_pos h3] at h
    match st, h with
    | y :: x :: r, h =>
      obtain rfl := Option.some.inj h
      intro a ha
      have q1 := brT_len x.row x.txt
      have q2 := brT_len y.isAlt y.txt
      rcases List.mem_cons.1 ha with rfl | ha
      · exact ⟨.seq x a, List.mem_cons_self, by simp only [RT.txt, List.length_append]; omega⟩
      rcases List.mem_cons.1 ha with rfl | ha
      · exact ⟨.seq a y, List.mem_cons_self, by simp only [RT.txt, List.length_append]; omega⟩
      · exact ⟨a, List.mem_cons_of_mem _ ha, Nat.le_refl _⟩
  rw [if_neg h3] at h
  by_cases h4 : n.f0 = 4
  · rw [if_pos h4] at h
    match st, h with
    | y :: x :: r, h =>
      obtain rfl := Option.some.inj h
      intro a ha
      have q1 := brT_len x.isAlt x.txt
      rcases List.mem_cons.1 ha with rfl | ha
      · exact ⟨.alt x a, List.mem_cons_self, by simp only [RT.txt, List.length_append, List.length_cons]; omega⟩
      rcases List.mem_cons.1 ha with rfl | ha
      · exact ⟨.alt a y, List.mem_cons_self, by simp only [RT.txt, List.length_append, List.length_cons]; omega⟩
      · exact ⟨a, List.mem_cons_of_mem _ ha, Nat.le_refl _⟩
  rw [if_neg h4] at h
  cases h
theorem run_txt : ∀ (l : List S45) (st s : List RT), run l st = some s → ∀ a ∈ st, ∃ b ∈ s, a.txt.length ≤ b.txt.length
  | [], st, s, h => by
    obtain rfl := Option.some.inj h
    exact fun a ha => ⟨a, ha, Nat.le_refl _⟩
  | n :: l, st, s, h => by
    unfold run at h
    split at h
    · cases q : stp n st with
      | none => rw [q] at h; cases h
      | some s1 =>
        rw [q, Option.bind_some] at h
        intro a ha
        obtain ⟨b, hb, h1⟩ := stp_txt q a ha
        obtain ⟨c, hc, h2⟩ := run_txt l s1 s h b hb
        exact ⟨c, hc, by omega⟩
    · cases h
/-- A pattern's text, and what is wrong. -/
def prt (p : List S45) : ByteArray × Int := if chk p ≠ 0 then (⟨#[]⟩, chk p) else match run p [] with
  | some [t] => if t.txt.length > 65536 then (⟨#[]⟩, 2) else (⟨t.txt.toArray⟩, 0)
  | _ => (⟨#[]⟩, 6)
theorem chk_zero {p : List S45} (h : chk p = 0) : p.length ≤ 4096 ∧ ∃ t, run p [] = some [t] ∧ t.dep ≤ 100 := by
  unfold chk at h
  split at h
  · cases h
  · next hl =>
    refine ⟨by omega, ?_⟩
    match hr : run p [], h with
    | some [t], h =>
      refine ⟨t, rfl, ?_⟩
      dsimp only at h
      split at h
      · cases h
      · omega
    | some [], h => cases h
    | some (_ :: _ :: _), h => cases h
    | none, h => cases h
theorem prt_bad {p : List S45} (h : chk p ≠ 0) : prt p = (⟨#[]⟩, chk p) := by unfold prt; rw [if_pos h]
theorem prt_ok {p : List S45} (h : chk p = 0) {t : RT} (ht : run p [] = some [t]) : prt p = if t.txt.length > 65536 then (⟨#[]⟩, 2) else (⟨t.txt.toArray⟩, 0) := by
  unfold prt; rw [if_neg (by simp [h]), ht]
/-- A part's text that is too long makes the whole too long. -/
theorem prt_long {p : List S45} (h : chk p = 0) {l m : List S45} (hp : p = l ++ m) {a : RT} {r : List RT} (hr : run l [] = some (a :: r)) (ha : a.txt.length > 65536) : prt p = (⟨#[]⟩, 2) := by
  obtain ⟨_, t, ht, _⟩ := chk_zero h
  rw [prt_ok h ht]
  have h1 := ht
  rw [hp, run_app, hr, Option.bind_some] at h1
  obtain ⟨b, hb, h2⟩ := run_txt m _ _ h1 a List.mem_cons_self
  obtain rfl := List.mem_singleton.1 hb
  rw [if_pos (by omega)]
end Go.Proofs.Ytflkgoggnomehaa.Pt

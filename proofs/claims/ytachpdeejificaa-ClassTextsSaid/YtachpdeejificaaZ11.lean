import Derived.Deep.CutBlock
import Derived.Deep.CutRange
import Derived.Deep.DeepCutAuto
import Derived.Deep.RegionHeld3
import Derived.Deep.RegionWith
import Derived.KernelRfl
import Derived.Test.YtachpdeejificaaZ3
import Derived.Test.YtachpdeejificaaZ4
import Derived.Test.YtachpdeejificaaZ6
import Derived.Test.YtachpdeejificaaZ10
set_option linter.unusedVariables false
set_option linter.unusedSimpArgs false
namespace Go.Proofs.Ytachpdeejificaa.P
open Go.RowKit Go.Proofs.YtachpdeejificaaW.PrintWords Go.Proofs.YtachpdeejificaaW.PrintLast
def nl (l : List Nat) : List Int := l.map fun (n : Nat) => (n : Int)
def tb (l : List Nat) : ByteArray := ⟨(l.map fun n => UInt8.ofNat n).toArray⟩
theorem tb_append (l m : List Nat) : tb (l ++ m) = tb l ++ tb m := by
  unfold tb
  apply ByteArray.ext
  simp
theorem tb_size (l : List Nat) : (tb l).size = l.length := by simp [tb, ByteArray.size]
theorem nl_append (l m : List Nat) : nl (l ++ m) = nl l ++ nl m := by simp [nl]
theorem nl_len (l : List Nat) : (nl l).length = l.length := by simp [nl]
theorem str_nl (l : List Nat) : strOfNums (nl l) = tb l := by unfold strOfNums nl tb; rw [List.map_map]; rfl
theorem bytes_tb {l : List Nat} (h : ∀ n ∈ l, n < 256) : bytesOf (tb l) = nl l := by
  unfold bytesOf tb nl
  simp only [List.map_map]
  refine List.map_congr_left fun n hn => ?_
  have := h n hn
  simp [Function.comp, Nat.mod_eq_of_lt this]
theorem spelling_all : ∀ b : Fin 256, class_spelling.f 3 (b.val : Int) = some (tb (spellL b.val)) := by decide +kernel
theorem spelledR_all : ∀ b : Fin 256, dowelref03_spelled.f 3 (b.val : Int) = some (tb (spellL b.val)) := by decide +kernel
theorem spell_lt_all : ∀ b : Fin 256, (spellL b.val).all (fun n => decide (n < 256)) = true := by decide +kernel
theorem spelling_f {k b : Nat} (hk : 3 ≤ k) (hb : b < 256) : class_spelling.f k (b : Int) = some (tb (spellL b)) := at_rounds (class_spelling.mono _) hk (spelling_all ⟨b, hb⟩)
theorem spelledR_f {k b : Nat} (hk : 3 ≤ k) (hb : b < 256) : dowelref03_spelled.f k (b : Int) = some (tb (spellL b)) := at_rounds (dowelref03_spelled.mono _) hk (spelledR_all ⟨b, hb⟩)
theorem spell_lt {b : Nat} (hb : b < 256) : ∀ n ∈ spellL b, n < 256 := fun n hn => by simpa using List.all_eq_true.1 (spell_lt_all ⟨b, hb⟩) n hn
theorem spell_len (b : Nat) : (spellL b).length ≤ 4 := by
  unfold spellL
  repeat' split
  all_goals simp
def rS (L : List (Nat × Nat)) : List S34 := L.map fun p => (⟨(p.1 : Int), (p.2 : Int)⟩ : S34)
theorem rS_len (L : List (Nat × Nat)) : (rS L).length = L.length := by simp [rS]
theorem rS_at {L : List (Nat × Nat)} {j : Nat} (hj : j < L.length) : Q10 (rS L) (j : Int) = ⟨((L[j]'hj).1 : Int), ((L[j]'hj).2 : Int)⟩ := by
  show (rS L).getD (Int.toNat (j : Int)) _ = _
  rw [Int.toNat_natCast, List.getD_eq_getElem?_getD]
  unfold rS
  rw [List.getElem?_map, List.getElem?_eq_getElem hj]
  rfl
theorem wr_j {j : Nat} (h : j < 9223372036854775807) : wrap64 ((j : Int) + 1) = ((j + 1 : Nat) : Int) := by unfold wrap64; omega
theorem textR_drop {L : List (Nat × Nat)} {j : Nat} (hj : j < L.length) : textR (L.drop j) = rngT (L[j]'hj) ++ textR (L.drop (j + 1)) := by
  rw [List.drop_eq_getElem_cons hj]
  unfold textR
  rw [List.flatMap_cons]
theorem text_l0 (L : List (Nat × Nat)) (hL : ∀ r ∈ L, r.1 ≤ r.2 ∧ r.2 < 256) (hn : L.length ≤ 256) : ∀ (d k j : Nat) (acc : List Nat), L.length - j = d → j ≤ L.length → d + 5 < k → acc.length + 12 * d < 140737488355320 →
    class_Text.l0 k (nl acc) (rS L) (L.length : Int) (j : Int) = some (tb (acc ++ (textR (L.drop j) ++ [93])))
  | 0, k, j, acc, hd, hj, hk, ha => by
    obtain ⟨k, rfl⟩ : ∃ m, k = m + 1 := ⟨k - 1, by omega⟩
    have e : L.drop j = [] := List.drop_eq_nil_of_le (by omega)
    simp only [class_Text.l0]
    rw [if_neg (by omega), nl_len, if_pos (by omega), e]
    have : nl acc ++ [93] = nl (acc ++ [93]) := by rw [nl_append]; rfl
    rw [this, str_nl]
    rfl
  | d + 1, k, j, acc, hd, hj, hk, ha => by
    obtain ⟨k, rfl⟩ : ∃ m, k = m + 1 := ⟨k - 1, by omega⟩
    have hlt : j < L.length := by omega
    have hr := hL _ (List.getElem_mem hlt)
    have hat := rS_at hlt
    rw [textR_drop hlt]
    generalize L[j]'hlt = r at hr hat
    obtain ⟨lo, hi⟩ := r
    dsimp only at hr hat
    have s1 := spelling_f (k := k) (b := lo) (by omega) (by omega)
    have s2 := spelling_f (k := k) (b := hi) (by omega) (by omega)
    have l1 := spell_len lo
    have l2 := spell_len hi
    have b1 := bytes_tb (spell_lt (b := lo) (by omega))
    have b2 := bytes_tb (spell_lt (b := hi) (by omega))
    have hm : (((hi : Int) - (lo : Int)) % 256) = (hi : Int) - lo := by omega
    simp only [class_Text.l0]
    rw [hat, rS_len]
    dsimp only
    rw [s1, s2, wr_j (by omega), if_pos (by omega), if_pos (by omega), if_pos (by omega), Option.bind_some, tb_size, nl_len, if_pos (by omega), Option.bind_some, b1, ← nl_append, nl_len, hm]
    unfold rngT
    dsimp only
    by_cases h1 : 1 < hi - lo
    · have e45 : nl (acc ++ spellL lo) ++ [45] = nl (acc ++ spellL lo ++ [45]) := by rw [nl_append (acc ++ spellL lo)]; rfl
      rw [if_pos (by omega), List.length_append, if_pos (by omega), Option.bind_some, if_pos (by omega), Option.bind_some, e45, nl_len, tb_size, b2, ← nl_append, List.length_append, List.length_append, List.length_singleton, if_pos (by omega)]
      rw [text_l0 L hL hn d k (j + 1) _ (by omega) (by omega) (by omega) (by simp only [List.length_append, List.length_singleton]; omega), if_pos h1, if_pos (by omega)]
      simp only [List.append_assoc]
    · rw [if_neg (by omega), if_neg h1]
      by_cases h2 : lo < hi
      · rw [if_pos (by omega), Option.bind_some, tb_size, b2, ← nl_append, List.length_append, if_pos (by omega)]
        rw [text_l0 L hL hn d k (j + 1) _ (by omega) (by omega) (by omega) (by simp only [List.length_append]; omega), if_pos h2]
        simp only [List.append_assoc, List.nil_append]
      · rw [if_neg (by omega)]
        rw [text_l0 L hL hn d k (j + 1) _ (by omega) (by omega) (by omega) (by simp only [List.length_append]; omega), if_neg h2]
        simp only [List.append_assoc, List.nil_append, List.append_nil]
theorem textR_l0 (L : List (Nat × Nat)) (hL : ∀ r ∈ L, r.1 ≤ r.2 ∧ r.2 < 256) (hn : L.length ≤ 256) : ∀ (d k j : Nat) (acc : List Nat), L.length - j = d → j ≤ L.length → d + 5 < k → acc.length + 12 * d < 140737488355320 →
    dowelref03_Text.l0 k (tb acc) (rS L) (j : Int) = some (tb (acc ++ (textR (L.drop j) ++ [93])))
  | 0, k, j, acc, hd, hj, hk, ha => by
    obtain ⟨k, rfl⟩ : ∃ m, k = m + 1 := ⟨k - 1, by omega⟩
    have e : L.drop j = [] := List.drop_eq_nil_of_le (by omega)
    simp only [dowelref03_Text.l0]
    rw [rS_len, if_neg (by omega), tb_size, if_pos (by omega), e]
    have : tb acc ++ (⟨#[93]⟩ : ByteArray) = tb (acc ++ [93]) := by rw [tb_append]; rfl
    rw [this]
    rfl
  | d + 1, k, j, acc, hd, hj, hk, ha => by
    obtain ⟨k, rfl⟩ : ∃ m, k = m + 1 := ⟨k - 1, by omega⟩
    have hlt : j < L.length := by omega
    have hr := hL _ (List.getElem_mem hlt)
    have hat := rS_at hlt
    rw [textR_drop hlt]
    generalize L[j]'hlt = r at hr hat
    obtain ⟨lo, hi⟩ := r
    dsimp only at hr hat
    have s1 := spelledR_f (k := k) (b := lo) (by omega) (by omega)
    have s2 := spelledR_f (k := k) (b := hi) (by omega) (by omega)
    have l1 := spell_len lo
    have l2 := spell_len hi
    have hm : (((hi : Int) - (lo : Int)) % 256) = (hi : Int) - lo := by omega
    have e45 : (⟨#[45]⟩ : ByteArray) = tb [45] := rfl
    simp only [dowelref03_Text.l0]
    rw [hat, rS_len]
    dsimp only
    rw [s1, s2, wr_j (by omega), if_pos (by omega), if_pos (by omega), Option.bind_some, tb_size, tb_size, if_pos (by omega), ← tb_append, hm, e45]
    unfold rngT
    dsimp only
    by_cases h1 : 1 < hi - lo
    · rw [if_pos (by omega), tb_size, List.length_append, if_pos (by omega), if_pos (by omega), Option.bind_some, ← tb_append, tb_size, tb_size, List.length_append, List.length_append, List.length_singleton, if_pos (by omega), ← tb_append]
      rw [textR_l0 L hL hn d k (j + 1) _ (by omega) (by omega) (by omega) (by simp only [List.length_append, List.length_singleton]; omega), if_pos h1, if_pos (by omega)]
      simp only [List.append_assoc]
    · rw [if_neg (by omega), if_neg h1]
      by_cases h2 : lo < hi
      · rw [if_pos (by omega), Option.bind_some, tb_size, tb_size, List.length_append, if_pos (by omega), ← tb_append]
        rw [textR_l0 L hL hn d k (j + 1) _ (by omega) (by omega) (by omega) (by simp only [List.length_append]; omega), if_pos h2]
        simp only [List.append_assoc, List.nil_append]
      · rw [if_neg (by omega)]
        rw [textR_l0 L hL hn d k (j + 1) _ (by omega) (by omega) (by omega) (by simp only [List.length_append]; omega), if_neg h2]
        simp only [List.append_assoc, List.nil_append, List.append_nil]
theorem ranges_len (a : Cls) : (rangesL a).length ≤ 256 := by
  have h := rangesOf_len _ (upto a 256) rfl
  have := upto_count a 256
  unfold rangesL
  omega
theorem text_f {a : Cls} (ha : a.ok) {k : Nat} (hk : 300 ≤ k) : class_Text.f k (a.c0 : Int) (a.c1 : Int) (a.c2 : Int) (a.c3 : Int) = some (tb (textC a)) := by
  obtain ⟨k, rfl⟩ : ∃ m, k = m + 1 := ⟨k - 1, by omega⟩
  have go : ∀ (b : Cls) (acc : List Nat), b.ok → acc.length ≤ 2 → class_Text.j0 (k + 1) (nl acc) (b.c0 : Int) (b.c1 : Int) (b.c2 : Int) (b.c3 : Int) = some (tb (acc ++ (textR (rangesL b) ++ [93]))) := by
    intro b acc hb hacc
    have hl := ranges_len b
    have hr : class_Ranges.f (b.c0 : Int) (b.c1 : Int) (b.c2 : Int) (b.c3 : Int) = some (rS (rangesL b)) := by
      unfold class_Ranges.f
      rw [if_pos (c4_ok hb), c4_cI]
      rfl
    simp only [class_Text.j0]
    rw [hr, Option.bind_some, rS_len]
    exact text_l0 (rangesL b) (good_ranges b).le hl (rangesL b).length k 0 acc (by omega) (by omega) (by omega) (by omega)
  have hc : class_Count.f (a.c0 : Int) (a.c1 : Int) (a.c2 : Int) (a.c3 : Int) = some (a.bytes.length : Int) := by
    unfold class_Count.f
    rw [if_pos (c4_ok ha), c4_cI]
  have hn : class_Not.f (a.c0 : Int) (a.c1 : Int) (a.c2 : Int) (a.c3 : Int) = some (c4 a.not) := by
    unfold class_Not.f
    rw [if_pos (c4_ok ha), c4_cI]
  unfold class_Text.f textC
  rw [Option.bind_some, hc, Option.bind_some]
  by_cases h : 128 < a.bytes.length
  · rw [if_pos (by omega), if_pos (by decide), hn, Option.bind_some, if_pos h]
    exact go a.not [91, 94] (Cls.ok_not _) (by decide)
  · rw [if_neg (by omega), if_neg h]
    exact go a [91] ha (by decide)
theorem textRef_f {a : Cls} (ha : a.ok) {k : Nat} (hk : 300 ≤ k) : dowelref03_Text.f k (a.c0 : Int) (a.c1 : Int) (a.c2 : Int) (a.c3 : Int) = some (tb (textC a)) := by
  obtain ⟨k, rfl⟩ : ∃ m, k = m + 1 := ⟨k - 1, by omega⟩
  have go : ∀ (b : Cls) (acc : List Nat), b.ok → acc.length ≤ 2 → dowelref03_Text.j0 (k + 1) (tb acc) (b.c0 : Int) (b.c1 : Int) (b.c2 : Int) (b.c3 : Int) = some (tb (acc ++ (textR (rangesL b) ++ [93]))) := by
    intro b acc hb hacc
    have hl := ranges_len b
    have hr : dowelref03_Ranges.f (b.c0 : Int) (b.c1 : Int) (b.c2 : Int) (b.c3 : Int) = some (rS (rangesL b)) := by
      unfold dowelref03_Ranges.f
      rw [if_pos (c4_ok hb), c4_cI]
      rfl
    simp only [dowelref03_Text.j0]
    rw [hr, Option.bind_some]
    exact textR_l0 (rangesL b) (good_ranges b).le hl (rangesL b).length k 0 acc (by omega) (by omega) (by omega) (by omega)
  have hc : dowelref03_Bytes.f (a.c0 : Int) (a.c1 : Int) (a.c2 : Int) (a.c3 : Int) = some (nl a.bytes) := by
    unfold dowelref03_Bytes.f
    rw [if_pos (c4_ok ha), c4_cI]
    rfl
  have hn : dowelref03_Not.f (a.c0 : Int) (a.c1 : Int) (a.c2 : Int) (a.c3 : Int) = some (c4 a.not) := by
    unfold dowelref03_Not.f
    rw [if_pos (c4_ok ha), c4_cI]
  unfold dowelref03_Text.f textC
  rw [hc, Option.bind_some, nl_len]
  by_cases h : 128 < a.bytes.length
  · rw [if_pos (by omega), hn, Option.bind_some, if_pos h]
    exact go a.not [91, 94] (Cls.ok_not _) (by decide)
  · rw [if_neg (by omega), if_neg h]
    exact go a [91] ha (by decide)
end Go.Proofs.Ytachpdeejificaa.P
set_option linter.unusedVariables false
set_option linter.unusedSimpArgs false
namespace Go.Proofs.Ytachpdeejificaa
open Go.RowKit
theorem bel_then {U U2 U3 : World} (h : Below U.heap.size U U2) (k : Below U2.heap.size U2 U3) : Below U.heap.size U U3 := h.trans (k.mono h.size)
theorem bel_own {U U2 : World} (h : Below U.heap.size U U2) {base n : Nat} {v : Value} {xs : List Value} (ho : U.ownsRow base 34 2 v n xs) : U2.ownsRow base 34 2 v n xs := Fr.own_move ho fun g hg => h.block g ((Fr.told_own ho).lt hg).2.1
theorem bel_told {U U2 : World} (h : Below U.heap.size U U2) {base n : Nat} {v : Value} {xs : List Value} (ho : Fr.Told U base 34 2 v n xs) : Fr.Told U2 base 34 2 v n xs := ho.move fun g hg => h.block g (ho.lt hg).2.1
theorem bel_undrew {U U2 : World} (h : Below U.drew.heap.size U.drew U2) : Below U.heap.size U U2 := ⟨h.os, h.tape, h.output, h.size, h.block⟩
theorem bel_drewN {U U2 : World} {B : Nat} (h : Below B U U2) (n : Nat) : Below B U (U2.drewN n) := ⟨h.os, h.tape, h.output, h.size, h.block⟩
theorem rng_len (a : Cls) : (rangesL a).length ≤ 65537 := by have := P.ranges_len a; omega
def mkR (j : Nat) : List Value := [.int .u8 (j : Int), .int .u8 200]
def moR (j : Nat) : List Value := [.int .u8 (j : Int), .int .u8 100]
def rv3 (a b c : Value) (j : Nat) : Value := match j with | 0 => a | 1 => b | _ => c
def rn3 (a b c : Nat) (j : Nat) : Nat := match j with | 0 => a | 1 => b | _ => c
structure Ahead3 (U : World) (B : Nat) (cs : Array Value) (rv : Nat → Value) (rn : Nat → Nat) : Prop where
  hcs : ∀ j, j < 3 → cs[j]? = some (rv j)
  hrows : ∀ j, j < 3 → ∃ xs, U.ownsRow B 34 2 (rv j) (rn j) xs
  hsmall : ∀ j, j < 3 → rn j ≤ 65537
  hapart : Fr.Apart 3 rv
theorem own_lower {W : World} {base base' n : Nat} {e : TypeId} {size : Nat} {v : Value} {xs : List Value} (h : W.ownsRow base e size v n xs) (hb : base' ≤ base) : W.ownsRow base' e size v n xs := by
  refine ⟨h.1, ?_⟩
  rcases h.2 with q | ⟨g, cap, cur, hv, hg, r⟩
  · exact .inl q
  · exact .inr ⟨g, cap, cur, hv, Nat.le_trans hb hg, r⟩
theorem ahead3 {U : World} {B m0 m1 m2 : Nat} {a b c : Value} {n1 n2 n3 : Nat} {x1 x2 x3 : List Value} (ha : U.ownsRow m0 34 2 a n1 x1) (hb : U.ownsRow m1 34 2 b n2 x2) (hc : U.ownsRow m2 34 2 c n3 x3)
    (l1 : ∀ g, a.ownBlock = some g → g < m1) (l2 : ∀ g, b.ownBlock = some g → g < m2) (hB : B ≤ m0) (h01 : m0 ≤ m1) (h12 : m1 ≤ m2) (k1 : n1 ≤ 65537) (k2 : n2 ≤ 65537) (k3 : n3 ≤ 65537) (o : Obj) :
    Ahead3 (U.alloc o) B #[a, b, c] (rv3 a b c) (rn3 n1 n2 n3) := by
  refine ⟨fun j hj => ?_, fun j hj => ?_, fun j hj => ?_, ?_⟩
  · match j, hj with
    | 0, _ => rfl
    | 1, _ => rfl
    | 2, _ => rfl
  · match j, hj with
    | 0, _ => exact ⟨x1, (own_lower ha hB).alloc _⟩
    | 1, _ => exact ⟨x2, (own_lower hb (Nat.le_trans hB h01)).alloc _⟩
    | 2, _ => exact ⟨x3, (own_lower hc (Nat.le_trans hB (Nat.le_trans h01 h12))).alloc _⟩
  · match j, hj with
    | 0, _ => exact k1
    | 1, _ => exact k2
    | 2, _ => exact k3
  · intro i j g hi hj hij h1 h2
    have q1 : ∀ g, b.ownBlock = some g → m1 ≤ g := fun g hg => ((Fr.told_own hb).lt hg).1
    have q2 : ∀ g, c.ownBlock = some g → m2 ≤ g := fun g hg => ((Fr.told_own hc).lt hg).1
    have p12 : a.ownBlock = some g → b.ownBlock = some g → False := fun u v => by have := l1 g u; have := q1 g v; omega
    have p13 : a.ownBlock = some g → c.ownBlock = some g → False := fun u v => by have := l1 g u; have := q2 g v; omega
    have p23 : b.ownBlock = some g → c.ownBlock = some g → False := fun u v => by have := l2 g u; have := q2 g v; omega
    match i, j, hi, hj with
    | 0, 0, _, _ => exact hij rfl
    | 0, 1, _, _ => exact p12 h1 h2
    | 0, 2, _, _ => exact p13 h1 h2
    | 1, 0, _, _ => exact p12 h2 h1
    | 1, 1, _, _ => exact hij rfl
    | 1, 2, _, _ => exact p23 h1 h2
    | 2, 0, _, _ => exact p13 h2 h1
    | 2, 1, _, _ => exact p23 h2 h1
    | 2, 2, _, _ => exact hij rfl
def gcells (ys : List Value) : Array Value := (ys ++ List.replicate (3 - ys.length) (Value.slice none 0 0)).toArray
theorem gcells_size {ys : List Value} (h : ys.length ≤ 3) : (gcells ys).size = 3 := by simp [gcells]; omega
theorem gcells_set {ys : List Value} (h : ys.length < 3) (x : Value) : (gcells ys).setIfInBounds ys.length x = gcells (ys ++ [x]) := by
  unfold gcells
  obtain ⟨n, hn⟩ : ∃ n, 3 - ys.length = n + 1 := ⟨2 - ys.length, by omega⟩
  have h2 : 3 - (ys ++ [x]).length = n := by simp; omega
  rw [hn, h2]
  apply Array.ext'
  simp [List.replicate_succ]
theorem gcells_at {ys : List Value} {j : Nat} {y : Value} (h : ys[j]? = some y) : (gcells ys)[j]? = some y := by
  have hl := (List.getElem?_eq_some_iff.1 h).1
  unfold gcells
  rw [List.getElem?_toArray, List.getElem?_append_left hl]
  exact h
theorem far_row {W : World} {base n : Nat} {v : Value} {xs : List Value} {G : Nat} {cs : Array Value} {t' : TypeId} (h : W.ownsRow base 34 2 v n xs) (hG : W.heap[G]? = some (.cells cs t' (0, 0))) (hte : t' ≠ 34) : some G ≠ v.ownBlock := fun q => by
  obtain ⟨_, _, cur, hc⟩ := (Fr.told_own h).lt q.symm
  rw [hG] at hc
  cases hc
  exact hte rfl
theorem infoRn : (Try.prog.info? 34).map (fun i => (i.zero, i.size, i.bytes)) = some (some (.agg #[.int .u8 0, .int .u8 0]), 2, 2) := by kernel_rfl
theorem own_pair {W : World} {B g n c t : Nat} {xs : List Value} (h : W.ownsRow B 34 2 (.slice (some ⟨g, 0, none⟩) n c) n xs) (ht : t < n) : ∃ u0 u1 : Value, W.cell? ⟨g, t * 2, none⟩ = some u0 ∧ W.cell? ⟨g, t * 2 + 1, none⟩ = some u1 := by
  have hl := h.1
  have hk : ∀ j, j < 2 → ∃ u, W.cell? ⟨g, t * 2 + j, none⟩ = some u := fun j hj => by
    have hlt : t * 2 + j < n * 2 := by omega
    exact ⟨xs[t * 2 + j]'(by omega), by rw [World.ownsRow.cellAt h _ hlt, List.getElem?_eq_getElem]⟩
  obtain ⟨u0, h0⟩ := hk 0 (by omega)
  obtain ⟨u1, h1⟩ := hk 1 (by omega)
  exact ⟨u0, u1, h0, h1⟩
theorem told_pair {W : World} {B g n c t : Nat} {xs : List Value} {x y : Value} (h : Fr.Told W B 34 2 (.slice (some ⟨g, 0, none⟩) n c) n xs) (ht : t < n) (hx : ∀ j, j < 2 → xs[t * 2 + j]? = [x, y][j]?) : W.cell? ⟨g, t * 2, none⟩ = some x ∧ W.cell? ⟨g, t * 2 + 1, none⟩ = some y := by
  have hk : ∀ j, j < 2 → W.cell? ⟨g, t * 2 + j, none⟩ = [x, y][j]? := fun j hj => by rw [Fr.Told.cell h _ (by omega), hx j hj]
  exact ⟨hk 0 (by omega), hk 1 (by omega)⟩
set_option maxRecDepth 100000 in
set_option maxHeartbeats 4000000 in
theorem texts_w (a b : Cls) (w : World) (ha : a.ok) (hb : b.ok) : Calls Try.prog 6 #[V4 a, V4 b] w fun e w' => e = .returned (.bool true) ∧ Below w.heap.size w w' := by
  have HA := Lib.hid ha; have HB := Lib.hid hb; clear ha hb
  have hl0 : w.heap.size < (w.alloc (.cells a.cells 24)).heap.size := by simp
  have VA : V4 a = .agg #[.int .u64 (a.c0 : Int), .int .u64 (a.c1 : Int), .int .u64 (a.c2 : Int), .int .u64 (a.c3 : Int)] := rfl
  have VB : V4 b = .agg #[.int .u64 (b.c0 : Int), .int .u64 (b.c1 : Int), .int .u64 (b.c2 : Int), .int .u64 (b.c3 : Int)] := rfl
  have RA := fun W => rng_c a HA.out W
  have RB := fun W => rng_c b HB.out W
  rw [VA] at RA ⊢
  rw [VB] at RB ⊢
  clear VA VB
  go_enter Try.func6, Try.ntmps6
  go_wp2_with fail
  go_region_held3 (fun w' => (w.heap.size + 1 < w'.heap.size ∧ w'.cell? ⟨w.heap.size, 0, none⟩ = some (.int .u64 (a.c0 : Int)) ∧ w'.cell? ⟨w.heap.size, 1, none⟩ = some (.int .u64 (a.c1 : Int)) ∧ w'.cell? ⟨w.heap.size, 2, none⟩ = some (.int .u64 (a.c2 : Int)) ∧ w'.cell? ⟨w.heap.size, 3, none⟩ = some (.int .u64 (a.c3 : Int)) ∧
      w'.cell? ⟨w.heap.size + 1, 0, none⟩ = some (.int .u64 (b.c0 : Int)) ∧ w'.cell? ⟨w.heap.size + 1, 1, none⟩ = some (.int .u64 (b.c1 : Int)) ∧ w'.cell? ⟨w.heap.size + 1, 2, none⟩ = some (.int .u64 (b.c2 : Int)) ∧ w'.cell? ⟨w.heap.size + 1, 3, none⟩ = some (.int .u64 (b.c3 : Int))))
    (first | go_keep | (go_split_ands; refine ⟨by have := hbb.size; omega, ?_, ?_, ?_, ?_, ?_, ?_, ?_, ?_⟩ <;> (rw [hbb.cell (by dsimp only; omega)]; assumption)))
    (first | (go_at_call_of 26 (a.c0 : Int); refine (RA _).mono ?_; rintro e W1 ⟨A, c, rfl, ho, hbb⟩) | (go_at_call_of 26 (b.c0 : Int); refine (RB _).mono ?_; rintro e W1 ⟨A, c, rfl, ho, hbb⟩))
  rename_i U1 A1 c1 o1 h1 U2 A2 c2 o2 h2 hs
  have o3 := ho; have h3 := hbb; clear ho hbb
  obtain ⟨s0, s1, s2, s3, s4, s5, s6, s7, s8⟩ := hs
  have O1 := Lib.hid o1; have O2 := Lib.hid o2; have O3 := Lib.hid o3; have K1 := Lib.hid h1; have K2 := Lib.hid h2; have K3 := Lib.hid h3
  clear o1 o2 o3 h1 h2 h3 RA RB
  have RA := fun W => rngR_c a HA.out W
  have RB := fun W => rngR_c b HB.out W
  rw [(show V4 a = .agg #[.int .u64 (a.c0 : Int), .int .u64 (a.c1 : Int), .int .u64 (a.c2 : Int), .int .u64 (a.c3 : Int)] from rfl)] at RA
  rw [(show V4 b = .agg #[.int .u64 (b.c0 : Int), .int .u64 (b.c1 : Int), .int .u64 (b.c2 : Int), .int .u64 (b.c3 : Int)] from rfl)] at RB
  go_wp2_with fail
  go_region_held3 (fun w' => (w.heap.size + 1 < w'.heap.size ∧ w'.cell? ⟨w.heap.size, 0, none⟩ = some (.int .u64 (a.c0 : Int)) ∧ w'.cell? ⟨w.heap.size, 1, none⟩ = some (.int .u64 (a.c1 : Int)) ∧ w'.cell? ⟨w.heap.size, 2, none⟩ = some (.int .u64 (a.c2 : Int)) ∧ w'.cell? ⟨w.heap.size, 3, none⟩ = some (.int .u64 (a.c3 : Int)) ∧
      w'.cell? ⟨w.heap.size + 1, 0, none⟩ = some (.int .u64 (b.c0 : Int)) ∧ w'.cell? ⟨w.heap.size + 1, 1, none⟩ = some (.int .u64 (b.c1 : Int)) ∧ w'.cell? ⟨w.heap.size + 1, 2, none⟩ = some (.int .u64 (b.c2 : Int)) ∧ w'.cell? ⟨w.heap.size + 1, 3, none⟩ = some (.int .u64 (b.c3 : Int))))
    (first | go_keep | (go_split_ands; refine ⟨by have := hbb.size; omega, ?_, ?_, ?_, ?_, ?_, ?_, ?_, ?_⟩ <;> (rw [hbb.cell (by dsimp only; omega)]; assumption)))
    (first | (go_at_call_of 27 (a.c0 : Int); refine (RA _).mono ?_; rintro e W2 ⟨D, d, rfl, hp, hbb⟩) | (go_at_call_of 27 (b.c0 : Int); refine (RB _).mono ?_; rintro e W2 ⟨D, d, rfl, hp, hbb⟩))
  rename_i U4 A4 c4 o4 h4 hs
  have o5 := hp; have h5 := hbb; clear hp hbb
  obtain ⟨s0, s1, s2, s3, s4, s5, s6, s7, s8⟩ := hs
  have O4 := Lib.hid o4; have O5 := Lib.hid o5; have K4 := Lib.hid h4; have K5 := Lib.hid h5
  clear o4 o5 h4 h5 RA RB
  have z0 := K1.out.size; have z1 := K2.out.size; have z2 := K3.out.size; have z3 := K4.out.size; have z4 := K5.out.size
  simp only [World.size_drew, World.size_alloc] at z0 z1 z2 z3 z4
  have k3V := bel_then (bel_undrew K4.out) K5.out
  have k2V := bel_then K3.out k3V
  have k1V := bel_then K2.out k2V
  have R1 := Lib.hid (bel_own k1V O1.out); have R2 := Lib.hid (bel_own k2V O2.out); have R3 := Lib.hid (bel_own k3V O3.out); have R4 := Lib.hid (bel_own K5.out O4.out); have R5 := Lib.hid O5.out
  have HW : Hid (Below w.heap.size w W2) := Lib.hid ((((Below.refl w.heap.size w).alloc (Nat.le_refl _) _).alloc (by simp) _).drew.trans ((K1.out.mono (by simp; omega)).trans (k1V.mono (by omega))))
  clear k1V k2V k3V
  have la := rng_len a; have lb := rng_len b
  have TP := fun W => P.class_Text.calls 300 _ _ _ _ _ W (P.text_f HA.out (Nat.le_refl _))
  have TR := fun W => P.dowelref03_Text.calls 300 _ _ _ _ _ W (P.textRef_f HA.out (Nat.le_refl _))
  go_wp2_with fail
  go_region_held3 (fun w' => Below W2.heap.size W2 w' ∧ (w.heap.size + 1 < w'.heap.size ∧ w'.cell? ⟨w.heap.size, 0, none⟩ = some (.int .u64 (a.c0 : Int)) ∧ w'.cell? ⟨w.heap.size, 1, none⟩ = some (.int .u64 (a.c1 : Int)) ∧ w'.cell? ⟨w.heap.size, 2, none⟩ = some (.int .u64 (a.c2 : Int)) ∧ w'.cell? ⟨w.heap.size, 3, none⟩ = some (.int .u64 (a.c3 : Int)) ∧
      w'.cell? ⟨w.heap.size + 1, 0, none⟩ = some (.int .u64 (b.c0 : Int)) ∧ w'.cell? ⟨w.heap.size + 1, 1, none⟩ = some (.int .u64 (b.c1 : Int)) ∧ w'.cell? ⟨w.heap.size + 1, 2, none⟩ = some (.int .u64 (b.c2 : Int)) ∧ w'.cell? ⟨w.heap.size + 1, 3, none⟩ = some (.int .u64 (b.c3 : Int))))
    ((go_split_ands; refine ⟨?_, ?_, ?_, ?_, ?_, ?_, ?_, ?_, ?_, ?_⟩ <;> first | assumption | exact (Below.refl _ _).drew | exact bel_drewN (Below.refl _ _) _ | exact bel_then ‹Below W2.heap.size W2 _› hbb | exact bel_drewN ‹Below W2.heap.size W2 _› _ | (have := hbb.size; omega) | (rw [hbb.cell (by dsimp only; omega)]; assumption) | (simp; assumption) | (simp; omega)))
    (first
      | (go_at_call_of 28 A1; go_split_ands; refine (eqRng_c (rangesL a) la _ _ A1 A4 c1 c4 _ (bel_told ‹Below W2.heap.size W2 _› (Fr.told_own R1.out)) (bel_told ‹Below W2.heap.size W2 _› (Fr.told_own R4.out))).mono ?_; rintro e W3 ⟨rfl, nn, rfl⟩)
      | (go_at_call_of 28 A2; go_split_ands; refine (eqRng_c (rangesL b) lb _ _ A2 D c2 d _ (bel_told ‹Below W2.heap.size W2 _› (Fr.told_own R2.out)) (bel_told ‹Below W2.heap.size W2 _› (Fr.told_own R5.out))).mono ?_; rintro e W3 ⟨rfl, nn, rfl⟩)
      | (go_at_call_of 28 A; go_split_ands; refine (eqRng_c (rangesL a) la _ _ A A4 c c4 _ (bel_told ‹Below W2.heap.size W2 _› (Fr.told_own R3.out)) (bel_told ‹Below W2.heap.size W2 _› (Fr.told_own R4.out))).mono ?_; rintro e W3 ⟨rfl, nn, rfl⟩)
      | (go_at_call 29; refine (TP _).mono ?_; rintro e W3 ⟨rfl, hbb⟩)
      | (go_at_call 30; refine (TR _).mono ?_; rintro e W3 ⟨rfl, hbb⟩))
  go_split_ands
  clear TP TR
  have HV3 := Lib.hid ‹Below W2.heap.size W2 W3›
  have hs1 : w.heap.size + 1 < W3.heap.size := by assumption
  have zW := HV3.out.size
  have hT := Lib.hid (show W3.cell? ⟨w.heap.size, 0, none⟩ = some (.int .u64 (a.c0 : Int)) ∧ W3.cell? ⟨w.heap.size, 1, none⟩ = some (.int .u64 (a.c1 : Int)) ∧ W3.cell? ⟨w.heap.size, 2, none⟩ = some (.int .u64 (a.c2 : Int)) ∧ W3.cell? ⟨w.heap.size, 3, none⟩ = some (.int .u64 (a.c3 : Int)) from ⟨by assumption, by assumption, by assumption, by assumption⟩)
  clear s0 s1 s2 s3 s4 s5 s6 s7 s8
  have HAH := Lib.hid (ahead3 (B := w.heap.size + 2) (bel_own HV3.out R1.out) (bel_own HV3.out R2.out) (bel_own HV3.out R3.out) (fun g hg => ((Fr.told_own O1.out).lt hg).2.1) (fun g hg => ((Fr.told_own O2.out).lt hg).2.1) (by simp) (by simp; omega) (by omega) la lb la
    (.cells #[.slice A1 (rangesL a).length c1, .slice A2 (rangesL b).length c2, .slice A (rangesL a).length c] 45))
  have HLA := Lib.hid (heap_alloc_new W3 (.cells #[.slice A1 (rangesL a).length c1, .slice A2 (rangesL b).length c2, .slice A (rangesL a).length c] 45 (0, 0)))
  go_wp2_with fail
  have HB0 := Lib.hid (show Below W3.heap.size W3 (W3.alloc (.cells #[.slice A1 (rangesL a).length c1, .slice A2 (rangesL b).length c2, .slice A (rangesL a).length c] 45)) from (Below.refl _ _).alloc (Nat.le_refl _) _)
  have HU4 : Hid (∀ g, (Value.slice A4 (rangesL a).length c4).ownBlock = some g → ¬ Fr.Sr 3 (rv3 (.slice A1 (rangesL a).length c1) (.slice A2 (rangesL b).length c2) (.slice A (rangesL a).length c)) g) := Lib.hid (by
    rintro g hg ⟨jj, hjj, hb⟩
    have g4 := ((Fr.told_own O4.out).lt hg).1
    simp only [World.size_drew] at g4
    match jj, hjj, hb with
    | 0, _, hb => have := ((Fr.told_own O1.out).lt hb).2.1; omega
    | 1, _, hb => have := ((Fr.told_own O2.out).lt hb).2.1; omega
    | 2, _, hb => have := ((Fr.told_own O3.out).lt hb).2.1; omega)
  generalize rv3 (.slice A1 (rangesL a).length c1) (.slice A2 (rangesL b).length c2) (.slice A (rangesL a).length c) = rv at HAH HU4
  generalize rn3 (rangesL a).length (rangesL b).length (rangesL a).length = rn at HAH
  generalize #[Value.slice A1 (rangesL a).length c1, .slice A2 (rangesL b).length c2, .slice A (rangesL a).length c] = cs at HAH HLA HB0 ⊢
  have hP1 : W3.heap.size < (W3.alloc (.cells cs 45)).heap.size := by simp
  generalize W3.alloc (.cells cs 45) = P at HAH HLA HB0 hP1 ⊢
  have hLS : ¬ Fr.Sr 3 rv W3.heap.size := by
    rintro ⟨j, hj, hb⟩
    obtain ⟨xs, hx⟩ := HAH.out.hrows j hj
    obtain ⟨_, _, cur, hc⟩ := (Fr.told_own hx).lt hb
    rw [HLA.out] at hc
    cases hc
  have HLS := Lib.hid hLS; clear hLS
  go_loopw [11] (fun i wr => ∃ k : Nat, k ≤ 3 ∧ i = .int .i64 k ∧ Fr.Marked P 3 (w.heap.size + 2) 34 2 rv rn mkR k wr) (fun i _ => 3 - (intOf i).toNat)
  case atStart => exact ⟨0, by omega, rfl, Fr.Oth.refl _ _, fun j hj => by omega, fun j _ hj => HAH.out.hrows j hj⟩
  case round =>
    obtain ⟨k, hk, rfl, hM⟩ := hrel
    obtain ⟨wo, rfl⟩ : ∃ wo : World, wo = wr := ⟨_, rfl⟩
    have HM := Lib.hid hM; clear hM
    by_cases hlt : k < 3
    · obtain ⟨xs0, hx0⟩ := HM.out.2.2 k (Nat.le_refl _) hlt
      obtain ⟨A9, ck, hv⟩ := (Fr.told_own hx0).form
      have hsm := HAH.out.hsmall k hlt
      have hkt : decide ((k : Int) < 3) = true := by simp; omega
      have HV := Lib.hid hv
      have hcell : wo.cell? ⟨W3.heap.size, k, none⟩ = some (.slice A9 (rn k) ck) := by
        rw [cell_of_row _ _ _ _ _ _ ((HM.out.1.block W3.heap.size hP1 HLS.out).trans HLA.out), HAH.out.hcs k hlt, hv]
      clear hv hx0
      go_wp2
      go_loopw [12] (fun kk wq => ∃ t : Nat, t ≤ rn k ∧ kk = .int .i64 t ∧ Fr.Marking P 3 (w.heap.size + 2) 34 2 rv rn mkR k t wq) (fun kk _ => rn k - (intOf kk).toNat)
      case atStart => exact ⟨0, by omega, rfl, Fr.marking_start HM.out hlt⟩
      case round =>
        obtain ⟨t, ht, rfl, hQ⟩ := hrel
        obtain ⟨wi, rfl⟩ : ∃ wi : World, wi = wr := ⟨_, rfl⟩
        have HQ := Lib.hid hQ; clear hQ
        have hcell2 : wi.cell? ⟨W3.heap.size, k, none⟩ = some (.slice A9 (rn k) ck) := by
          rw [cell_of_row _ _ _ _ _ _ ((HQ.out.1.block W3.heap.size hP1 HLS.out).trans HLA.out), HAH.out.hcs k hlt, HV.out]
        by_cases hlt2 : t < rn k
        · obtain ⟨ys, hys⟩ := HQ.out.2.2.2
          obtain ⟨g, c', hg, hcc⟩ := (Fr.told_own hys).cons (by omega)
          have hgA : Value.slice A9 (rn k) ck = .slice (some ⟨g, 0, none⟩) (rn k) c' := HV.out.symm.trans hg
          have hf := fun j => World.ownsRow.frozenAt (by rw [← hg]; exact hys) j
          injection hgA with hA _ hc'
          subst hA hc'
          clear hcell
          obtain ⟨u0, u1, f0, f1⟩ := own_pair (by rw [← hg]; exact hys) hlt2
          have hz : (0 : Int) ≤ (t : Int) ∧ (t : Int) < (rn k : Int) := by omega
          have hz2 : (0 : Int) ≤ (k : Int) ∧ (k : Int) < 3 := by omega
          have HYS := Lib.hid hys; clear hys
          go_wp2
          go_roundw
          case rel => exact ⟨t + 1, by omega, by go_num, Fr.marking_step HQ.out hlt hlt2 hg HAH.out.hapart rfl (Below.refl _ _)⟩
          case measure => simp [intOf]; omega
        · obtain rfl : t = rn k := by omega
          go_wp2
          go_roundw
          case rel => exact ⟨k + 1, by omega, by go_num, Fr.marking_done HQ.out rfl⟩
          case measure => simp [intOf]; omega
    · have hMk := fun j (hj : j < 3) => HM.out.2.1 j (by omega) hj
      have hMO := HM.out.1
      have HMK := Lib.hid hMk; have HMO := Lib.hid hMO; clear hMk hMO HM
      have hQ0 : ∀ j, j < 3 → (wo.alloc (.cells (gcells []) 45)).ownsRow (w.heap.size + 2) 34 2 (rv j) (rn j) (Fr.reps (rn j) (mkR j)) := fun j hj => (HMK.out j hj).alloc _
      have HQ0 := Lib.hid hQ0; clear hQ0
      have hG0 := Lib.hid (heap_alloc_new wo (.cells (gcells []) 45 (0, 0)))
      have hQ1 : wo.heap.size < (wo.alloc (.cells (gcells []) 45)).heap.size := by simp
      have hQ2 := Lib.hid (HMO.out.alloc (.cells (gcells []) 45))
      have hz3 := HMO.out.size
      go_wp2
      rw [show wo.alloc (Obj.cells #[Value.slice none 0 0, .slice none 0 0, .slice none 0 0] 45) = wo.alloc (.cells (gcells []) 45) from rfl]
      generalize wo.alloc (.cells (gcells []) 45) = Q at HQ0 hG0 hQ1 hQ2 ⊢
      go_loopw [14] (fun i wr => ∃ (k : Nat) (ys : List Value), k ≤ 3 ∧ i = .int .i64 k ∧ wr.heap[wo.heap.size]? = some (.cells (gcells ys) 45 (0, 0)) ∧ Fr.GrownE wo.heap.size Q 3 (w.heap.size + 2) 34 2 16 rv rn mkR moR k ys wr) (fun i _ => 3 - (intOf i).toNat)
      case atStart => exact ⟨0, [], by omega, rfl, hG0.out, Fr.grownE_start HQ0.out⟩
      case round =>
        obtain ⟨k, ys, hk, rfl, hgb, hG⟩ := hrel
        obtain ⟨wp, rfl⟩ : ∃ wp : World, wp = wr := ⟨_, rfl⟩
        have HG := Lib.hid hG; have HGB := Lib.hid hgb; clear hG hgb
        have hLp : wp.heap[W3.heap.size]? = some (.cells cs 45 (0, 0)) := ((HG.out.oth.block W3.heap.size (by have := hQ2.out.size; omega) (by
          rintro (q | q)
          · exact HLS.out q
          · omega)).trans (hQ2.out.block W3.heap.size hP1 HLS.out)).trans HLA.out
        have HLP := Lib.hid hLp; clear hLp
        by_cases hlt : k < 3
        · have hx0 := HG.out.rest k (Nat.le_refl _) hlt
          obtain ⟨A9, ck, hv⟩ := (Fr.told_own hx0).form
          have hsm := HAH.out.hsmall k hlt
          have hkt : decide ((k : Int) < 3) = true := by simp; omega
          have HX := Lib.hid hx0; clear hx0
          have HV := Lib.hid hv
          have hyl : ys.length = k := HG.out.len
          have hcell : wp.cell? ⟨W3.heap.size, k, none⟩ = some (.slice A9 (rn k) ck) := by
            rw [cell_of_row _ _ _ _ _ _ HLP.out, HAH.out.hcs k hlt, hv]
          obtain ⟨u0, hu0⟩ : ∃ u0, wp.cell? ⟨wo.heap.size, k, none⟩ = some u0 := by
            refine ⟨(gcells ys)[k]'(by rw [gcells_size (by omega)]; exact hlt), ?_⟩
            rw [cell_of_row _ _ _ _ _ _ HGB.out, Array.getElem?_eq_getElem]
          have hfz : wp.frozen? ⟨wo.heap.size, k, none⟩ = false := frozen_of_row _ _ _ _ _ HGB.out
          have HS := Lib.hid (show Fr.GrowingE wo.heap.size (w.heap.size + 2) 34 2 rv rn mkR moR k 0 wp (.slice A9 (rn k) ck) (wp.setCell ⟨wo.heap.size, k, none⟩ (.slice A9 (rn k) ck)) by rw [← hv]; exact Fr.growingE_set (Fr.growingE_start HX.out) HGB.out (by decide))
          have HS2 := Lib.hid (heap_setCell_same wp wo.heap.size k _ _ (.slice A9 (rn k) ck) HGB.out)
          have hz2 : (0 : Int) ≤ (k : Int) ∧ (k : Int) < 3 := by omega
          clear hv
          have HYL := Lib.hid hyl; clear hyl
          go_wp2
          go_loopw [15] (fun kk wq => ∃ (t : Nat) (x : Value), t ≤ 16 ∧ kk = .int .i64 t ∧ Fr.GrowingE wo.heap.size (w.heap.size + 2) 34 2 rv rn mkR moR k t wp x wq ∧ wq.heap[wo.heap.size]? = some (.cells ((gcells ys).setIfInBounds k x) 45 (0, 0))) (fun kk _ => 16 - (intOf kk).toNat)
          case atStart => exact ⟨0, _, by omega, rfl, HS.out, HS2.out⟩
          case round =>
            obtain ⟨t, x, ht, rfl, hQ, hgb2⟩ := hrel
            obtain ⟨wi, rfl⟩ : ∃ wi : World, wi = wr := ⟨_, rfl⟩
            have HQ := Lib.hid hQ; clear hQ
            obtain ⟨A2', c2', hv2⟩ := (Fr.told_own HQ.out.2.1).form
            subst hv2
            have hBi : w.heap.size + 2 ≤ wi.heap.size := by have h1 := HQ.out.1.size; have h2 := HG.out.oth.size; have h3 := hQ2.out.size; omega
            have hgc : wi.cell? ⟨wo.heap.size, k, none⟩ = some (.slice A2' (rn k + t) c2') := by
              rw [cell_of_row _ _ _ _ _ _ hgb2, Array.getElem?_setIfInBounds, if_pos rfl, if_pos (by rw [gcells_size (by rw [HYL.out]; omega)]; exact hlt)]
            have HGB2 := Lib.hid hgb2; clear hgb2
            have hgl : wo.heap.size < wi.heap.size := by have h1 := HQ.out.1.size; have h2 := HG.out.oth.size; omega
            by_cases hlt2 : t < 16
            · go_wp2_with (at_builtin; refine Fr.wpList_append_two (w.heap.size + 2) rfl (.tmp 92) (.tmp 96) 32 34 (.agg #[.int .u8 0, .int .u8 0]) 2 2 rfl Try.underlying32 infoRn rfl (by decide) _ (rn k + t) _ [.int .u8 (k : Int), .int .u8 100] rfl (by simp [Value.oneCell']) rfl rfl HQ.out.2.1 hBi (by omega) (by omega) ?_; intro g c3 w2 h1 h2 h3; have hg2 := (h2.block wo.heap.size (by simp; omega) (far_row HQ.out.2.1 HGB2.out (by decide))).trans (((World.grownBy_alloc wi _ none).block wo.heap.size hgl (by simp)).trans HGB2.out); have hgc2 := cell_of_row _ _ k _ _ _ hg2; have hfz2 := frozen_of_row _ _ k _ _ hg2; rw [Array.getElem?_setIfInBounds, if_pos rfl, if_pos (by rw [gcells_size (by rw [HYL.out]; omega)]; exact hlt)] at hgc2; have H1 := Lib.hid h1; have H2 := Lib.hid h2; have H3 := Lib.hid h3; have HG2 := Lib.hid hg2; clear h1 h2 h3 hg2)
              go_roundw
              case rel =>
                refine ⟨t + 1, .slice (some ⟨g, 0, none⟩) (rn k + (t + 1)) c3, by omega, by go_num, Fr.growingE_set (Fr.growingE_step HQ.out H1.out H2.out H3.out) HG2.out (by decide), ?_⟩
                have := heap_setCell_same w2 wo.heap.size k _ _ (.slice (some ⟨g, 0, none⟩) (rn k + (t + 1)) c3) HG2.out
                rw [Array.setIfInBounds_setIfInBounds] at this
                exact this
              case measure => simp [intOf]; omega
            · obtain rfl : t = 16 := by omega
              go_wp2
              go_roundw
              case rel =>
                refine ⟨k + 1, ys ++ [.slice A2' (rn k + 16) c2'], by omega, by go_num, ?_, Fr.grownE_step HG.out HGB.out (by decide) hlt HAH.out.hapart HQ.out⟩
                rw [HGB2.out, ← HYL.out, gcells_set (by rw [HYL.out]; exact hlt)]
              case measure => simp [intOf]; omega
        · have hTold := fun j (hj : j < 3) => HG.out.told j (by omega) hj
          have hCopy := HG.out.copy
          have hyl : ys.length = 3 := by have := HG.out.len; omega
          have hOth := HG.out.oth
          have HTO := Lib.hid hTold; have HCO := Lib.hid hCopy; have HYL := Lib.hid hyl; have HOT := Lib.hid hOth
          clear hTold hCopy hyl hOth HG
          go_wp2
          go_loopw [16] (fun i wr => ∃ j : Nat, j ≤ 3 ∧ i = .int .i64 j ∧ Below wp.heap.size wp wr) (fun i _ => 3 - (intOf i).toNat)
          case atStart => exact ⟨0, by omega, rfl, Below.refl _ _⟩
          case round =>
            obtain ⟨j, hj, rfl, hB⟩ := hrel
            obtain ⟨wx, rfl⟩ : ∃ wx : World, wx = wr := ⟨_, rfl⟩
            have HBx := Lib.hid hB; clear hB
            by_cases hlj : j < 3
            · obtain ⟨y, hy⟩ : ∃ y, ys[j]? = some y := ⟨_, List.getElem?_eq_getElem (by rw [HYL.out]; exact hlj)⟩
              have HC := Lib.hid (HCO.out j y hy).1
              have HT := Lib.hid (HTO.out j hlj)
              obtain ⟨A8, ck, hv⟩ := HT.out.form
              obtain ⟨A7, c7, hv2⟩ := HC.out.form
              subst hv2
              have hsm := HAH.out.hsmall j hlj
              have hjt : decide ((j : Int) < 3) = true := by simp; omega
              have HV := Lib.hid hv
              have hGp : wo.heap.size < wp.heap.size := Fr.heap_lt' HGB.out
              have hLp : W3.heap.size < wp.heap.size := Fr.heap_lt' HLP.out
              have HCE := Lib.hid (show wp.cell? ⟨W3.heap.size, j, none⟩ = some (.slice A8 (rn j) ck) by rw [cell_of_row _ _ _ _ _ _ HLP.out, HAH.out.hcs j hlj, hv])
              have HCE3 := Lib.hid (show wp.cell? ⟨wo.heap.size, j, none⟩ = some (.slice A7 (rn j + 16) c7) by rw [cell_of_row _ _ _ _ _ _ HGB.out, gcells_at hy])
              have p1 := (HBx.out.cell (p := ⟨W3.heap.size, j, none⟩) hLp).trans HCE.out
              have p3 := (HBx.out.cell (p := ⟨wo.heap.size, j, none⟩) hGp).trans HCE3.out
              have hz2 : (0 : Int) ≤ (j : Int) ∧ (j : Int) < 3 := by omega
              clear hv hy
              go_wp2
              go_loopw [17] (fun i wq => ∃ t : Nat, t ≤ rn j + 16 ∧ i = .int .i64 t ∧ Below wp.heap.size wp wq) (fun i _ => rn j + 16 - (intOf i).toNat)
              case atStart => exact ⟨0, by omega, rfl, HBx.out⟩
              case round =>
                obtain ⟨t, ht, rfl, hB2⟩ := hrel
                obtain ⟨wz, rfl⟩ : ∃ wz : World, wz = wr := ⟨_, rfl⟩
                have p1 := (hB2.cell (p := ⟨W3.heap.size, j, none⟩) hLp).trans HCE.out
                have p3 := (hB2.cell (p := ⟨wo.heap.size, j, none⟩) hGp).trans HCE3.out
                have hsz := hB2.size
                have HB2 := Lib.hid hB2; clear hB2
                have hLz : W3.heap.size < wz.heap.size := by omega
                have hgz : wo.heap.size < wz.heap.size := by omega
                by_cases hlt2 : t < rn j + 16
                · obtain ⟨g2, c5, h2, _⟩ := HC.out.cons (by omega)
                  injection h2 with h2a _ h2c
                  subst h2a h2c
                  have hg2 : g2 < wz.heap.size := by have q : g2 < wp.heap.size := (HC.out.lt rfl).2.1; omega
                  have i1 : (0 : Int) ≤ (t : Int) ∧ (t : Int) < (rn j : Int) + 16 := by omega
                  have i1' : (t : Int) < ((rn j + 16 : Nat) : Int) := by omega
                  have hBa : ∀ cs', Below wp.heap.size wp (wz.alloc (.cells cs' 34)) := fun cs' => HB2.out.alloc hsz _
                  by_cases hlt3 : t < rn j
                  · have e81 : decide (rn j ≤ t) = false := by simp; omega
                    have e98 : decide ((t : Int) < (rn j : Int)) = true := by simp; omega
                    have e98' : decide (t < rn j) = true := by simp; omega
                    obtain ⟨g1, c6, h1, _⟩ := HT.out.cons (by omega)
                    have hA := HV.out.symm.trans h1
                    injection hA with h1a _ h1c
                    subst h1a h1c
                    have hTT : Fr.Told wp (w.heap.size + 2) 34 2 (.slice (some ⟨g1, 0, none⟩) (rn j) ck) (rn j) (Fr.reps (rn j) (mkR j)) := by rw [← HV.out]; exact HT.out
                    obtain ⟨b0, b1⟩ := told_pair (x := .int .u8 (j : Int)) (y := .int .u8 200) (HC.out.move fun g hg => (hBa #[.int .u8 (j : Int), .int .u8 200]).block g (HC.out.lt hg).2.1) hlt2 (fun jj hjj => by
                      rw [List.getElem?_append_left (by rw [Fr.reps_len]; show t * 2 + jj < rn j * 2; omega)]
                      exact Fr.reps_at (c := mkR j) hlt3 hjj)
                    obtain ⟨a0, a1⟩ := told_pair (x := .int .u8 (j : Int)) (y := .int .u8 200) (hTT.move fun g hg => (hBa #[.int .u8 (j : Int), .int .u8 200]).block g (hTT.lt hg).2.1) hlt3 (fun jj hjj => Fr.reps_at (c := mkR j) hlt3 hjj)
                    have i2 : (0 : Int) ≤ (t : Int) ∧ (t : Int) < (rn j : Int) := by omega
                    have HBW := Lib.hid (hBa #[.int .u8 (j : Int), .int .u8 200])
                    clear hTT hBa
                    go_wp2
                    go_quiet (fail)
                    go_wp2
                    go_roundw
                    case rel => exact ⟨t + 1, by omega, by go_num, bel_drewN HBW.out _⟩
                    case measure => simp [intOf]; omega
                  · have e81 : decide (rn j ≤ t) = true := by simp; omega
                    have e98 : decide ((t : Int) < (rn j : Int)) = false := by simp; omega
                    have e98' : decide (t < rn j) = false := by simp; omega
                    obtain ⟨b0, b1⟩ := told_pair (x := .int .u8 (j : Int)) (y := .int .u8 100) (HC.out.move fun g hg => (hBa #[.int .u8 (j : Int), .int .u8 100]).block g (HC.out.lt hg).2.1) hlt2 (fun jj hjj => by
                      rw [List.getElem?_append_right (by rw [Fr.reps_len]; show rn j * 2 ≤ t * 2 + jj; omega), Fr.reps_len, show t * 2 + jj - rn j * (mkR j).length = (t - rn j) * (moR j).length + jj by show t * 2 + jj - rn j * 2 = (t - rn j) * 2 + jj; omega]
                      exact Fr.reps_at (c := moR j) (by omega) hjj)
                    have HBW := Lib.hid (hBa #[.int .u8 (j : Int), .int .u8 100])
                    clear hBa
                    go_wp2
                    go_quiet (fail)
                    go_wp2
                    go_roundw
                    case rel => exact ⟨t + 1, by omega, by go_num, bel_drewN HBW.out _⟩
                    case measure => simp [intOf]; omega
                · have hte : t = rn j + 16 := by omega
                  subst hte
                  go_wp2
                  go_roundw
                  case rel => exact ⟨j + 1, by omega, by go_num, HB2.out⟩
                  case measure => simp [intOf]; omega
            · have hfar : ∀ bb, bb < W3.heap.size → ¬ Fr.Sr 3 rv bb → wx.heap[bb]? = W3.heap[bb]? := fun bb h1 h2 =>
                ((HBx.out.block bb (by have := Fr.heap_lt' HLP.out; omega)).trans ((HOT.out.block bb (by have := hQ2.out.size; omega) (by
                  rintro (q | q)
                  · exact h2 q
                  · omega)).trans ((hQ2.out.block bb (by omega) h2).trans (HB0.out.block bb h1))))
              have hsb : ∀ g, Fr.Sr 3 rv g → w.heap.size + 2 ≤ g := by
                rintro g ⟨jj, hjj, hb⟩
                obtain ⟨xs, hx⟩ := HAH.out.hrows jj hjj
                exact ((Fr.told_own hx).lt hb).1
              have hbox := hfar w.heap.size (by omega) (fun q => by have := hsb _ q; omega)
              have v0 := (World.cell?_of_block (w := W3) (a := ⟨w.heap.size, 0, none⟩) hbox).trans hT.out.1
              have v1 := (World.cell?_of_block (w := W3) (a := ⟨w.heap.size, 1, none⟩) hbox).trans hT.out.2.1
              have v2 := (World.cell?_of_block (w := W3) (a := ⟨w.heap.size, 2, none⟩) hbox).trans hT.out.2.2.1
              have v3 := (World.cell?_of_block (w := W3) (a := ⟨w.heap.size, 3, none⟩) hbox).trans hT.out.2.2.2
              have hu0 := Fr.told_own (bel_own HV3.out R4.out)
              have HU := Lib.hid (hu0.move fun g hg => hfar g (hu0.lt hg).2.1 (HU4.out g hg))
              have HBF := Lib.hid (show Below w.heap.size w wx from ((HW.out.trans (HV3.out.mono HW.out.size)).trans ((HB0.out.mono (by omega)).trans ((hQ2.out.to (B := w.heap.size) (fun g hg => by have := hsb g hg; omega) (by omega)).trans ((HOT.out.to (B := w.heap.size) (fun g hg => by
                rcases hg with q | q
                · have := hsb g q; omega
                · omega) (by have := hQ2.out.size; omega)).trans (HBx.out.mono (by have := Fr.heap_lt' HLP.out; omega)))))))
              clear hfar hsb hbox hu0
              have RF := fun W => rng_c a HA.out W
              rw [show V4 a = .agg #[.int .u64 (a.c0 : Int), .int .u64 (a.c1 : Int), .int .u64 (a.c2 : Int), .int .u64 (a.c3 : Int)] from rfl] at RF
              go_wp2_with fail
              refine (RF _).mono ?_
              rintro e U9 ⟨A9, c9, rfl, ho9, hb9⟩
              have HO9 := Lib.hid ho9; have HB9 := Lib.hid hb9; clear ho9 hb9 RF
              go_wp2_with fail
              refine (eqRng_c (rangesL a) la _ _ A9 A4 c9 c4 _ (Fr.told_own HO9.out) (bel_told HB9.out HU.out)).mono ?_
              rintro e w' ⟨rfl, n9, rfl⟩
              have HBF2 := Lib.hid (HBF.out.trans (HB9.out.mono HBF.out.size))
              go_wp2
              go_ret
              exact ⟨rfl, bel_drewN HBF2.out _⟩
end Go.Proofs.Ytachpdeejificaa

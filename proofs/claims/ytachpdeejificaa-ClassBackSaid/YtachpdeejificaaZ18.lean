import Derived.KernelRfl
import Derived.Test.YtachpdeejificaaZ4
import Derived.Test.YtachpdeejificaaZ9
import Derived.Test.YtachpdeejificaaZ12
import Derived.Test.YtachpdeejificaaZ13
import Derived.Test.YtachpdeejificaaZ14
import Derived.Test.YtachpdeejificaaZ17
set_option linter.unusedVariables false
set_option linter.unusedSimpArgs false
namespace Go.Proofs.Ytachpdeejificaa.P
open Go.RowKit Go.Proofs.YtachpdeejificaaW.PrintWords Go.Proofs.YtachpdeejificaaW.PrintLast
def nl (l : List Nat) : List Int := l.map fun (n : Nat) => (n : Int)
def tb (l : List Nat) : ByteArray := ⟨(l.map fun n => UInt8.ofNat n).toArray⟩
theorem tb_size (l : List Nat) : (tb l).size = l.length := by simp [tb, ByteArray.size]
theorem nl_append (l m : List Nat) : nl (l ++ m) = nl l ++ nl m := by simp [nl]
theorem nl_len (l : List Nat) : (nl l).length = l.length := by simp [nl]
theorem str_nl (l : List Nat) : strOfNums (nl l) = tb l := by unfold strOfNums nl tb; rw [List.map_map]; rfl
theorem bytes_tb {l : List Nat} (h : ∀ n ∈ l, n < 256) : bytesOf (tb l) = nl l := by
  unfold bytesOf tb nl
  simp only [List.map_map]
  refine List.map_congr_left fun n hn => ?_
  have := h n hn
  simp [Function.comp, Nat.mod_eq_of_lt this]
theorem bat_tb {l : List Nat} (h : ∀ n ∈ l, n < 256) (i : Nat) (hi : i < l.length) : bat (tb l) i = l.getD i 0 := by
  unfold bat tb
  simp only [List.getD_eq_getElem?_getD, List.getElem?_map, List.getElem?_eq_getElem hi, Option.map_some, Option.getD_some]
  have := h l[i] (List.getElem_mem hi)
  simp [Nat.mod_eq_of_lt this]
theorem spelling_all : ∀ b : Fin 256, class_spelling.f 3 (b.val : Int) = some (tb (spellL b.val)) := by decide +kernel
theorem spell_lt_all : ∀ b : Fin 256, (spellL b.val).all (fun n => decide (n < 256)) = true := by decide +kernel
theorem spelling_f {k b : Nat} (hk : 3 ≤ k) (hb : b < 256) : class_spelling.f k (b : Int) = some (tb (spellL b)) := at_rounds (class_spelling.mono _) hk (spelling_all ⟨b, hb⟩)
theorem spell_lt {b : Nat} (hb : b < 256) : ∀ n ∈ spellL b, n < 256 := fun n hn => by simpa using List.all_eq_true.1 (spell_lt_all ⟨b, hb⟩) n hn
theorem spell_len (b : Nat) : (spellL b).length ≤ 4 := by
  unfold spellL
  repeat' split
  all_goals simp
def rS (L : List (Nat × Nat)) : List S34 := L.map fun p => (⟨(p.1 : Int), (p.2 : Int)⟩ : S34)
theorem rS_len (L : List (Nat × Nat)) : (rS L).length = L.length := by simp [rS]
theorem rS_at {L : List (Nat × Nat)} {j : Nat} (hj : j < L.length) : Q14 (rS L) (j : Int) = ⟨((L[j]'hj).1 : Int), ((L[j]'hj).2 : Int)⟩ := by
  show (rS L).getD (Int.toNat (j : Int)) _ = _
  rw [Int.toNat_natCast, List.getD_eq_getElem?_getD]
  unfold rS
  rw [List.getElem?_map, List.getElem?_eq_getElem hj]
  rfl
theorem wr_j {j : Nat} (h : j < 9223372036854775807) : wrap64 ((j : Int) + 1) = ((j + 1 : Nat) : Int) := by unfold wrap64; omega
theorem textR_drop {L : List (Nat × Nat)} {j : Nat} (hj : j < L.length) : textR (L.drop j) = rngT (L[j]'hj) ++ textR (L.drop (j + 1)) := by
  rw [List.drop_eq_getElem_cons hj]
  unfold textR
  rw [List.flatMap_cons]
theorem text_l0 (L : List (Nat × Nat)) (hL : ∀ r ∈ L, r.1 ≤ r.2 ∧ r.2 < 256) (hn : L.length ≤ 256) : ∀ (d k j : Nat) (acc : List Nat), L.length - j = d → j ≤ L.length → d + 5 < k → acc.length + 12 * d < 140737488355320 →
    class_Text.l0 k (nl acc) (rS L) (L.length : Int) (j : Int) = some (tb (acc ++ (textR (L.drop j) ++ [93])))
  | 0, k, j, acc, hd, hj, hk, ha => by
    obtain ⟨k, rfl⟩ : ∃ m, k = m + 1 := ⟨k - 1, by omega⟩
    have e : L.drop j = [] := List.drop_eq_nil_of_le (by omega)
    simp only [class_Text.l0]
    rw [if_neg (by omega), nl_len, if_pos (by omega), e]
    have : nl acc ++ [93] = nl (acc ++ [93]) := by rw [nl_append]; rfl
    rw [this, str_nl]
    rfl
  | d + 1, k, j, acc, hd, hj, hk, ha => by
    obtain ⟨k, rfl⟩ : ∃ m, k = m + 1 := ⟨k - 1, by omega⟩
    have hlt : j < L.length := by omega
    have hr := hL _ (List.getElem_mem hlt)
    have hat := rS_at hlt
    rw [textR_drop hlt]
    generalize L[j]'hlt = r at hr hat
    obtain ⟨lo, hi⟩ := r
    dsimp only at hr hat
    have s1 := spelling_f (k := k) (b := lo) (by omega) (by omega)
    have s2 := spelling_f (k := k) (b := hi) (by omega) (by omega)
    have l1 := spell_len lo
    have l2 := spell_len hi
    have b1 := bytes_tb (spell_lt (b := lo) (by omega))
    have b2 := bytes_tb (spell_lt (b := hi) (by omega))
    have hm : (((hi : Int) - (lo : Int)) % 256) = (hi : Int) - lo := by omega
    simp only [class_Text.l0]
    rw [hat, rS_len]
    dsimp only
    rw [s1, s2, wr_j (by omega), if_pos (by omega), if_pos (by omega), if_pos (by omega), Option.bind_some, tb_size, nl_len, if_pos (by omega), Option.bind_some, b1, ← nl_append, nl_len, hm]
    unfold rngT
    dsimp only
    by_cases h1 : 1 < hi - lo
    · have e45 : nl (acc ++ spellL lo) ++ [45] = nl (acc ++ spellL lo ++ [45]) := by rw [nl_append (acc ++ spellL lo)]; rfl
      rw [if_pos (by omega), List.length_append, if_pos (by omega), Option.bind_some, if_pos (by omega), Option.bind_some, e45, nl_len, tb_size, b2, ← nl_append, List.length_append, List.length_append, List.length_singleton, if_pos (by omega)]
      rw [text_l0 L hL hn d k (j + 1) _ (by omega) (by omega) (by omega) (by simp only [List.length_append, List.length_singleton]; omega), if_pos h1, if_pos (by omega)]
      simp only [List.append_assoc]
    · rw [if_neg (by omega), if_neg h1]
      by_cases h2 : lo < hi
      · rw [if_pos (by omega), Option.bind_some, tb_size, b2, ← nl_append, List.length_append, if_pos (by omega)]
        rw [text_l0 L hL hn d k (j + 1) _ (by omega) (by omega) (by omega) (by simp only [List.length_append]; omega), if_pos h2]
        simp only [List.append_assoc, List.nil_append]
      · rw [if_neg (by omega)]
        rw [text_l0 L hL hn d k (j + 1) _ (by omega) (by omega) (by omega) (by simp only [List.length_append]; omega), if_neg h2]
        simp only [List.append_assoc, List.nil_append, List.append_nil]
theorem ranges_len (a : Cls) : (rangesL a).length ≤ 256 := by
  have h := rangesOf_len _ (upto a 256) rfl
  have := upto_count a 256
  unfold rangesL
  omega
theorem text_f {a : Cls} (ha : a.ok) {k : Nat} (hk : 300 ≤ k) : class_Text.f k (a.c0 : Int) (a.c1 : Int) (a.c2 : Int) (a.c3 : Int) = some (tb (textC a)) := by
  obtain ⟨k, rfl⟩ : ∃ m, k = m + 1 := ⟨k - 1, by omega⟩
  have go : ∀ (b : Cls) (acc : List Nat), b.ok → acc.length ≤ 2 → class_Text.j0 (k + 1) (nl acc) (b.c0 : Int) (b.c1 : Int) (b.c2 : Int) (b.c3 : Int) = some (tb (acc ++ (textR (rangesL b) ++ [93]))) := by
    intro b acc hb hacc
    have hl := ranges_len b
    have hr : class_Ranges.f (b.c0 : Int) (b.c1 : Int) (b.c2 : Int) (b.c3 : Int) = some (rS (rangesL b)) := by
      unfold class_Ranges.f
      rw [if_pos (c4_ok hb), c4_cI]
      rfl
    simp only [class_Text.j0]
    rw [hr, Option.bind_some, rS_len]
    exact text_l0 (rangesL b) (good_ranges b).le hl (rangesL b).length k 0 acc (by omega) (by omega) (by omega) (by omega)
  have hc : class_Count.f (a.c0 : Int) (a.c1 : Int) (a.c2 : Int) (a.c3 : Int) = some (a.bytes.length : Int) := by
    unfold class_Count.f
    rw [if_pos (c4_ok ha), c4_cI]
  have hn : class_Not.f (a.c0 : Int) (a.c1 : Int) (a.c2 : Int) (a.c3 : Int) = some (c4 a.not) := by
    unfold class_Not.f
    rw [if_pos (c4_ok ha), c4_cI]
  unfold class_Text.f textC
  rw [Option.bind_some, hc, Option.bind_some]
  by_cases h : 128 < a.bytes.length
  · rw [if_pos (by omega), if_pos (by decide), hn, Option.bind_some, if_pos h]
    exact go a.not [91, 94] (Cls.ok_not _) (by decide)
  · rw [if_neg (by omega), if_neg h]
    exact go a [91] ha (by decide)
end Go.Proofs.Ytachpdeejificaa.P
set_option linter.unusedVariables false
set_option linter.unusedSimpArgs false
namespace Go.Proofs.Ytachpdeejificaa.P
open Go.RowKit Go.Proofs.YtachpdeejificaaW.PrintWords Go.Proofs.YtachpdeejificaaW.PrintLast
theorem works_b (k : Nat) (hk : 60 ≤ k) : dowellaw03_works.f k = some true := at_rounds dowellaw03_works.mono hk (by kernel_rfl)
theorem wr_small {n : Int} (h0 : -1000 ≤ n) (h1 : n ≤ 100000) : wrap64 n = n := by unfold wrap64; omega
def part (L : List (Nat × Nat)) (i : Nat) : Nat := ((L.take i).map fun r => r.2 - r.1 + 1).sum
theorem part_succ {L : List (Nat × Nat)} {i : Nat} (h : i < L.length) : part L (i + 1) = part L i + (L[i].2 - L[i].1 + 1) := by
  unfold part
  rw [List.take_succ_eq_append_getElem h, List.map_append, List.sum_append]
  simp
theorem part_le (L : List (Nat × Nat)) : ∀ (d i : Nat), L.length - i = d → part L i ≤ part L L.length
  | 0, i, hd => by
    have e : L.take i = L := List.take_of_length_le (by omega)
    unfold part
    rw [e, List.take_length]
    exact Nat.le_refl _
  | d + 1, i, hd => by
    have h1 := part_succ (L := L) (i := i) (by omega)
    have h2 := part_le L d (i + 1) (by omega)
    omega
theorem part_all {L : List (Nat × Nat)} {p : Nat → Bool} (g : Good L 256 p) : part L L.length = cnt p 256 := by
  unfold part
  rw [List.take_length]
  exact g.sum
theorem natRngs_rS (L : List (Nat × Nat)) : natRngs (rS L) = L := by
  unfold natRngs rS
  rw [List.map_map]
  exact (List.map_congr_left fun x _ => rfl).trans (List.map_id L)
theorem okRngs_rS {L : List (Nat × Nat)} (h : ∀ r ∈ L, r.1 ≤ r.2 ∧ r.2 < 256) : okRngs (rS L) = true := by
  unfold okRngs rS
  rw [List.all_eq_true]
  intro x hx
  obtain ⟨r, hr, rfl⟩ := List.mem_map.1 hx
  have := h r hr
  simp only [Bool.and_eq_true, decide_eq_true_eq]
  omega
theorem back_l0 {a : Cls} (ha : a.ok) (a1 t : ByteArray) (n : Int) (hn : n = wrap64 ((a1.size : Int) + (t.size : Int))) : ∀ (d k i s : Nat), (rangesL a).length - i = d → i ≤ (rangesL a).length → d < k → s = part (rangesL a) i →
    dowellaw03_ClassBack.l0 k a1 t n (rS (rangesL a)) (s : Int) (i : Int) (a.c0 : Int) (a.c1 : Int) (a.c2 : Int) (a.c3 : Int) (a.c0 : Int) (a.c1 : Int) (a.c2 : Int) (a.c3 : Int) 0 0 = some true
  | 0, k, i, s, hd, hi, hk, hs => by
    obtain ⟨k, rfl⟩ : ∃ m, k = m + 1 := ⟨k - 1, by omega⟩
    have g := good_ranges a
    have hof : class_Of.f (rS (rangesL a)) = some (c4 a) := by
      have hl := ranges_len a
      unfold class_Of.f
      rw [if_pos ⟨by rw [rS_len]; omega, okRngs_rS g.le⟩, natRngs_rS, ofFn_ranges ha]
    have hc : class_Count.f (a.c0 : Int) (a.c1 : Int) (a.c2 : Int) (a.c3 : Int) = some (a.bytes.length : Int) := by
      unfold class_Count.f
      rw [if_pos (c4_ok ha), c4_cI]
    have hsum : s = a.bytes.length := by rw [hs, show i = (rangesL a).length by omega, part_all g, bytes_cnt]
    simp only [dowellaw03_ClassBack.l0]
    rw [rS_len, if_neg (by omega), if_pos (by decide), if_pos (by simp), if_pos hn, hof, Option.bind_some]
    unfold c4
    dsimp only
    rw [if_pos (by simp), hc, Option.bind_some, hsum]
    simp
  | d + 1, k, i, s, hd, hi, hk, hs => by
    obtain ⟨k, rfl⟩ : ∃ m, k = m + 1 := ⟨k - 1, by omega⟩
    have g := good_ranges a
    have hlt : i < (rangesL a).length := by omega
    have hr := g.le _ (List.getElem_mem hlt)
    have hat := rS_at hlt
    have hps := part_succ hlt
    have hpl := part_le (rangesL a) d (i + 1) (by omega)
    rw [part_all g] at hpl
    have hcl : cnt a.mem 256 ≤ 256 := by unfold cnt; exact Nat.le_trans (List.length_filter_le _ _) (by simp)
    have hl := ranges_len a
    have hx : wrap64 ((s : Int) + wrap64 (wrap64 (wrap64 ((rangesL a)[i]'hlt).2 - wrap64 ((rangesL a)[i]'hlt).1) + 1)) = ((part (rangesL a) (i + 1) : Nat) : Int) := by
      rw [wr_small (n := (((rangesL a)[i]'hlt).2 : Int)) (by omega) (by omega), wr_small (n := (((rangesL a)[i]'hlt).1 : Int)) (by omega) (by omega), wr_small (n := ((((rangesL a)[i]'hlt).2 : Int) - _)) (by omega) (by omega), wr_small (n := ((((rangesL a)[i]'hlt).2 : Int) - _ + 1)) (by omega) (by omega), wr_small (by omega) (by omega), hps]
      omega
    have ih := back_l0 ha a1 t n hn d k (i + 1) (part (rangesL a) (i + 1)) (by omega) (by omega) (by omega) rfl
    simp only [dowellaw03_ClassBack.l0]
    rw [hat, rS_len, if_pos (by omega), if_pos (by omega)]
    dsimp only
    rw [if_neg (by omega), hx, wr_j (by omega)]
    by_cases hi0 : (i : Int) > 0
    · have hlt2 : i - 1 < (rangesL a).length := by omega
      have e1 : wrap64 ((i : Int) - 1) = ((i - 1 : Nat) : Int) := by unfold wrap64; omega
      have hat2 := rS_at hlt2
      have hr2 := g.le _ (List.getElem_mem hlt2)
      have hup := List.pairwise_iff_getElem.1 g.up (i - 1) i hlt2 hlt (by omega)
      rw [if_pos hi0, e1, if_pos (by omega), if_pos (by omega), hat2]
      dsimp only
      rw [wr_small (n := (((rangesL a)[i - 1]'hlt2).2 : Int)) (by omega) (by omega), wr_small (n := (((rangesL a)[i]'hlt).1 : Int)) (by omega) (by omega), wr_small (by omega) (by omega), if_neg (by omega)]
      exact ih
    · rw [if_neg hi0]
      exact ih
theorem textR_len : ∀ (l : List (Nat × Nat)), (textR l).length ≤ 9 * l.length
  | [] => by simp [textR]
  | r :: l => by
    have ih := textR_len l
    have e : textR (r :: l) = rngT r ++ textR l := by unfold textR; rw [List.flatMap_cons]
    have l1 := spell_len r.1
    have l2 := spell_len r.2
    have : (rngT r).length ≤ 9 := by
      unfold rngT
      rw [List.length_append, List.length_append]
      split <;> split <;> simp <;> omega
    rw [e, List.length_append, List.length_cons]
    omega
theorem textC_len (a : Cls) : (textC a).length ≤ 3000 := by
  have h1 := textR_len (rangesL a)
  have h2 := textR_len (rangesL a.not)
  have h3 := ranges_len a
  have h4 := ranges_len a.not
  unfold textC
  split <;> (simp only [List.length_cons, List.length_append, List.length_nil]; omega)
theorem textR_lt {l : List (Nat × Nat)} (h : ∀ r ∈ l, r.1 ≤ r.2 ∧ r.2 < 256) : ∀ n ∈ textR l, n < 256 := by
  intro n hn
  unfold textR at hn
  obtain ⟨r, hr, hn⟩ := List.mem_flatMap.1 hn
  have g := h r hr
  unfold rngT at hn
  rcases List.mem_append.1 hn with hn | hn
  · exact spell_lt (by omega) n hn
  rcases List.mem_append.1 hn with hn | hn
  · split at hn
    · rw [List.mem_singleton.1 hn]; decide
    · simp at hn
  · split at hn
    · exact spell_lt (by omega) n hn
    · simp at hn
theorem textC_lt (a : Cls) : ∀ n ∈ textC a, n < 256 := by
  intro n hn
  unfold textC at hn
  split at hn
  · simp only [List.mem_cons, List.mem_append, List.not_mem_nil, or_false] at hn
    rcases hn with rfl | rfl | hn | rfl
    · decide
    · decide
    · exact textR_lt (good_ranges a.not).le n hn
    · decide
  · simp only [List.mem_cons, List.mem_append, List.not_mem_nil, or_false] at hn
    rcases hn with rfl | hn | rfl
    · decide
    · exact textR_lt (good_ranges a).le n hn
    · decide
theorem bat_mid {a1 a2 : ByteArray} {l : List Nat} (h : ∀ n ∈ l, n < 256) : BAt (a1 ++ tb l ++ a2) a1.size (l ++ []) := by
  refine ⟨by rw [ByteArray.size_append, ByteArray.size_append, tb_size]; simp, fun i hi => ?_⟩
  rw [List.append_nil] at hi ⊢
  rw [← bat_tb h i hi]
  unfold bat
  have e : (a1 ++ tb l ++ a2).data.toList = a1.data.toList ++ ((tb l).data.toList ++ a2.data.toList) := by simp [ByteArray.data_append]
  have hs : a1.data.toList.length = a1.size := by rw [Array.length_toList]; rfl
  have ht : (tb l).data.toList.length = l.length := by rw [Array.length_toList]; exact tb_size l
  rw [e, List.getD_eq_getElem?_getD, List.getD_eq_getElem?_getD, List.getElem?_append_right (by omega), hs, show a1.size + i - a1.size = i by omega, List.getElem?_append_left (by omega)]
theorem back_f {a : Cls} (ha : a.ok) (a1 a2 : ByteArray) (h : a1.size + a2.size ≤ 281474976710656) : dowellaw03_ClassBack.f 600 (a.c0 : Int) (a.c1 : Int) (a.c2 : Int) (a.c3 : Int) a1 a2 = some true := by
  have hl := textC_len a
  have hsz : (a1 ++ tb (textC a) ++ a2).size = a1.size + (textC a).length + a2.size := by rw [ByteArray.size_append, ByteArray.size_append, tb_size]
  have hp := parseF_text (s := a1 ++ tb (textC a) ++ a2) (t := []) ha (bat_mid (textC_lt a))
  have hpi : parseI (a1 ++ tb (textC a) ++ a2) (a1.size : Int) = (a, a1.size + (textC a).length, 0, 0) := by
    unfold parseI
    rw [if_neg (by rw [hsz]; omega), Int.toNat_natCast, hp]
  have hP : class_Parse.f (a1 ++ tb (textC a) ++ a2) (a1.size : Int) = some ((a.c0 : Int), (a.c1 : Int), (a.c2 : Int), (a.c3 : Int), ((a1.size + (textC a).length : Nat) : Int), 0, 0) := by
    unfold class_Parse.f
    rw [if_pos ⟨.inr (by
      unfold midB
      rw [Int.toNat_natCast, hp]
      simp only [Bool.and_eq_true, decide_eq_true_eq]
      rw [hsz]
      unfold bigN
      exact ⟨by omega, by omega, by omega, trivial, trivial, by omega⟩), by omega, by omega⟩, hpi]
    rfl
  have hr : class_Ranges.f (a.c0 : Int) (a.c1 : Int) (a.c2 : Int) (a.c3 : Int) = some (rS (rangesL a)) := by
    unfold class_Ranges.f
    rw [if_pos (c4_ok ha), c4_cI]
    rfl
  unfold dowellaw03_ClassBack.f
  rw [works_b _ (by decide), Option.bind_some, if_pos rfl, text_f ha (by decide), Option.bind_some, tb_size, if_pos (by omega), ByteArray.size_append, tb_size, if_pos (by omega), hP, Option.bind_some, hr, Option.bind_some]
  dsimp only
  have hl2 := ranges_len a
  exact back_l0 ha a1 (tb (textC a)) _ (by rw [tb_size]; unfold wrap64; omega) (rangesL a).length 600 0 0 (by omega) (by omega) (by omega) (by unfold part; simp)
end Go.Proofs.Ytachpdeejificaa.P
set_option linter.unusedVariables false
namespace Go.Proofs.Ytachpdeejificaa
open Go.RowKit
theorem back_w (a : Cls) (s t : ByteArray) (w : World) (ha : a.ok) (hs : s.size ≤ 140737488351232) (ht : t.size ≤ 140737488351232) :
    Calls Try.prog 8 #[V4 a, .string s, .string t] w fun e w' => e = .returned (.bool true) ∧ Below w.heap.size w w' :=
  P.dowellaw03_ClassBack.calls 600 _ _ _ _ _ _ true w (P.back_f ha s t (by omega))
end Go.Proofs.Ytachpdeejificaa

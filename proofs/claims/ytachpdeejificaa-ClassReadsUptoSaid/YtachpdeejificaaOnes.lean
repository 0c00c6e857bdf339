/- How many bits are one: what math/bits.OnesCount64 comes to, in plain numbers. -/
import Derived.Test.YtachpdeejificaaClsPl2
namespace Go.Proofs.Ytachpdeejificaa
/-- How many of the first n fit. -/
def cnt (p : Nat → Bool) (n : Nat) : Nat := ((List.range n).filter p).length
theorem cnt_add (p : Nat → Bool) (a b : Nat) : cnt p (a + b) = cnt p a + cnt (fun j => p (a + j)) b := by
  unfold cnt
  rw [List.range_add, List.filter_append, List.length_append, List.filter_map, List.length_map]
  rfl
theorem cnt_congr {p q : Nat → Bool} {n : Nat} (h : ∀ i, i < n → p i = q i) : cnt p n = cnt q n := by
  unfold cnt
  rw [List.filter_congr (fun x hx => h x (by simpa using hx))]
theorem and_split (Q R M m : Nat) (hR : R < 256) (hm : m < 256) : (256 * Q + R) &&& (256 * M + m) = 256 * (Q &&& M) + (R &&& m) := by
  have hRm : R &&& m < 256 := Nat.lt_of_le_of_lt Nat.and_le_left hR
  apply Nat.eq_of_testBit_eq
  intro i
  rw [Nat.testBit_and, show 256 = 2 ^ 8 from rfl, Nat.testBit_two_pow_mul_add _ hR, Nat.testBit_two_pow_mul_add _ hm, Nat.testBit_two_pow_mul_add _ hRm]
  by_cases h : i < 8
  · simp [h]
  · simp [h]
def on1 (x : Nat) : Nat := (x / 2 &&& 6148914691236517205) + (x &&& 6148914691236517205)
def on2 (x : Nat) : Nat := (x / 4 &&& 3689348814741910323) + (x &&& 3689348814741910323)
def on3 (x : Nat) : Nat := (x / 16 + x) &&& 1085102592571150095
def on4 (x : Nat) : Nat := x + x / 256
def on5 (x : Nat) : Nat := x + x / 65536
def on6 (x : Nat) : Nat := x + x / 4294967296
/-- One byte's. -/
def by1 (r : Nat) : Nat := (r / 2 &&& 85) + (r &&& 85)
def by2 (u : Nat) : Nat := (u / 4 &&& 51) + (u &&& 51)
/-- The masks of n bytes. -/
def mask (m : Nat) : Nat → Nat
  | 0 => 0
  | n + 1 => 256 * mask m n + m
def s1 (n x : Nat) : Nat := (x / 2 &&& mask 85 n) + (x &&& mask 85 n)
def s2 (n x : Nat) : Nat := (x / 4 &&& mask 51 n) + (x &&& mask 51 n)
theorem low1 : ∀ (c : Fin 2) (r : Fin 256), (128 * c.val + r.val / 2) &&& 85 = r.val / 2 &&& 85 := by decide +kernel
theorem low2 : ∀ (c : Fin 4) (r : Fin 256), (64 * c.val + r.val / 4) &&& 51 = r.val / 4 &&& 51 := by decide +kernel
theorem s1_step (n q r : Nat) (hr : r < 256) : s1 (n + 1) (256 * q + r) = 256 * s1 n q + by1 r := by
  unfold s1 by1
  rw [show mask 85 (n + 1) = 256 * mask 85 n + 85 from rfl]
  have e : (256 * q + r) / 2 = 256 * (q / 2) + (128 * (q % 2) + r / 2) := by omega
  rw [e, and_split _ _ _ _ (by omega) (by omega), and_split _ _ _ _ hr (by omega)]
  have l := low1 ⟨q % 2, by omega⟩ ⟨r, hr⟩
  simp only at l
  rw [l]
  omega
theorem s2_step (n q r : Nat) (hr : r < 256) : s2 (n + 1) (256 * q + r) = 256 * s2 n q + by2 r := by
  unfold s2 by2
  rw [show mask 51 (n + 1) = 256 * mask 51 n + 51 from rfl]
  have e : (256 * q + r) / 4 = 256 * (q / 4) + (64 * (q % 4) + r / 4) := by omega
  rw [e, and_split _ _ _ _ (by omega) (by omega), and_split _ _ _ _ hr (by omega)]
  have l := low2 ⟨q % 4, by omega⟩ ⟨r, hr⟩
  simp only at l
  rw [l]
  omega
theorem by_facts : ∀ r : Fin 256, by1 r.val < 256 ∧ by2 (by1 r.val) < 256 ∧ by2 (by1 r.val) % 16 ≤ 4 ∧ by2 (by1 r.val) / 16 ≤ 4 ∧ by2 (by1 r.val) / 16 + by2 (by1 r.val) % 16 = cnt r.val.testBit 8 := by decide +kernel
/-- The bytes, the lowest first, put together. -/
def join : List Nat → Nat
  | [] => 0
  | b :: l => 256 * join l + b
theorem s2s1_join : ∀ (l : List Nat), (∀ b ∈ l, b < 256) → s2 l.length (s1 l.length (join l)) = join (l.map fun b => by2 (by1 b))
  | [], _ => by simp [s1, s2, join, mask]
  | b :: l, h => by
    have hb : b < 256 := h b (by simp)
    have ih := s2s1_join l (fun x hx => h x (by simp [hx]))
    rw [List.length_cons, List.map_cons, join, join, s1_step _ _ _ hb, s2_step _ _ _ (by_facts ⟨b, hb⟩).1, ih]
theorem and15 (n : Nat) : n &&& 15 = n % 16 := Nat.and_two_pow_sub_one_eq_mod n 4
theorem s3_join : ∀ (l : List Nat), (∀ c ∈ l, c % 16 ≤ 4 ∧ c / 16 ≤ 4) → (join l / 16 + join l) &&& mask 15 l.length = join (l.map fun c => c / 16 + c % 16) ∧ join l % 16 ≤ 4
  | [], _ => by simp [join, mask]
  | c :: l, h => by
    obtain ⟨h1, h2⟩ := h c (by simp)
    obtain ⟨ih, hl⟩ := s3_join l (fun x hx => h x (by simp [hx]))
    rw [List.length_cons, List.map_cons]
    simp only [join, mask]
    have e : (256 * join l + c) / 16 + (256 * join l + c) = 256 * (join l / 16 + join l) + (16 * (join l % 16) + c / 16 + c) := by omega
    refine ⟨?_, by omega⟩
    rw [e, and_split _ _ _ _ (by omega) (by omega), ih, and15]
    omega
theorem on_sum (c0 c1 c2 c3 c4 c5 c6 c7 : Nat) (h0 : c0 ≤ 8) (h1 : c1 ≤ 8) (h2 : c2 ≤ 8) (h3 : c3 ≤ 8) (h4 : c4 ≤ 8) (h5 : c5 ≤ 8) (h6 : c6 ≤ 8) (h7 : c7 ≤ 8) :
    on6 (on5 (on4 (join [c0, c1, c2, c3, c4, c5, c6, c7]))) % 128 = c0 + c1 + c2 + c3 + c4 + c5 + c6 + c7 := by
  have ej : join [c0, c1, c2, c3, c4, c5, c6, c7] = 256 * (256 * (256 * (256 * (256 * (256 * (256 * c7 + c6) + c5) + c4) + c3) + c2) + c1) + c0 := by simp [join]
  have e4 : on4 (join [c0, c1, c2, c3, c4, c5, c6, c7]) = 256 * (256 * (256 * (256 * (256 * (256 * (256 * c7 + (c6 + c7)) + (c5 + c6)) + (c4 + c5)) + (c3 + c4)) + (c2 + c3)) + (c1 + c2)) + (c0 + c1) := by
    rw [ej]; unfold on4
    rw [Nat.mul_add_div (by omega), Nat.div_eq_of_lt (show c0 < 256 by omega)]
    omega
  have e5 : on5 (on4 (join [c0, c1, c2, c3, c4, c5, c6, c7])) = 65536 * (65536 * (65536 * (256 * c7 + (c6 + c7)) + (256 * (c5 + c6 + c7) + (c4 + c5 + c6 + c7))) + (256 * (c3 + c4 + c5 + c6) + (c2 + c3 + c4 + c5))) + (256 * (c1 + c2 + c3 + c4) + (c0 + c1 + c2 + c3)) := by
    rw [e4]; unfold on5
    have hA : 256 * (256 * (256 * (256 * (256 * (256 * (256 * c7 + (c6 + c7)) + (c5 + c6)) + (c4 + c5)) + (c3 + c4)) + (c2 + c3)) + (c1 + c2)) + (c0 + c1) = 65536 * (256 * (256 * (256 * (256 * (256 * c7 + (c6 + c7)) + (c5 + c6)) + (c4 + c5)) + (c3 + c4)) + (c2 + c3)) + (256 * (c1 + c2) + (c0 + c1)) := by omega
    rw [hA, Nat.mul_add_div (by omega), Nat.div_eq_of_lt (show 256 * (c1 + c2) + (c0 + c1) < 65536 by omega)]
    omega
  rw [e5]
  unfold on6
  have hB : 65536 * (65536 * (65536 * (256 * c7 + (c6 + c7)) + (256 * (c5 + c6 + c7) + (c4 + c5 + c6 + c7))) + (256 * (c3 + c4 + c5 + c6) + (c2 + c3 + c4 + c5))) + (256 * (c1 + c2 + c3 + c4) + (c0 + c1 + c2 + c3)) = 4294967296 * (65536 * (256 * c7 + (c6 + c7)) + (256 * (c5 + c6 + c7) + (c4 + c5 + c6 + c7))) + (65536 * (256 * (c3 + c4 + c5 + c6) + (c2 + c3 + c4 + c5)) + (256 * (c1 + c2 + c3 + c4) + (c0 + c1 + c2 + c3))) := by omega
  rw [hB, Nat.mul_add_div (by omega), Nat.div_eq_of_lt (show 65536 * (256 * (c3 + c4 + c5 + c6) + (c2 + c3 + c4 + c5)) + (256 * (c1 + c2 + c3 + c4) + (c0 + c1 + c2 + c3)) < 4294967296 by omega)]
  omega
theorem mask85 : mask 85 8 = 6148914691236517205 := by simp [mask]
theorem mask51 : mask 51 8 = 3689348814741910323 := by simp [mask]
theorem mask15 : mask 15 8 = 1085102592571150095 := by simp [mask]
theorem on_join (b0 b1 b2 b3 b4 b5 b6 b7 : Nat) (h0 : b0 < 256) (h1 : b1 < 256) (h2 : b2 < 256) (h3 : b3 < 256) (h4 : b4 < 256) (h5 : b5 < 256) (h6 : b6 < 256) (h7 : b7 < 256) :
    on6 (on5 (on4 (on3 (on2 (on1 (join [b0, b1, b2, b3, b4, b5, b6, b7])))))) % 128 =
      cnt b0.testBit 8 + cnt b1.testBit 8 + cnt b2.testBit 8 + cnt b3.testBit 8 + cnt b4.testBit 8 + cnt b5.testBit 8 + cnt b6.testBit 8 + cnt b7.testBit 8 := by
  have hb : ∀ b ∈ [b0, b1, b2, b3, b4, b5, b6, b7], b < 256 := by simp; omega
  have hs := s2s1_join [b0, b1, b2, b3, b4, b5, b6, b7] hb
  have e2 : on2 (on1 (join [b0, b1, b2, b3, b4, b5, b6, b7])) = join ([b0, b1, b2, b3, b4, b5, b6, b7].map fun b => by2 (by1 b)) := by
    rw [← hs]; unfold on2 on1 s2 s1; simp only [List.length_cons, List.length_nil, Nat.reduceAdd, mask85, mask51]
  have h3' := (s3_join ([b0, b1, b2, b3, b4, b5, b6, b7].map fun b => by2 (by1 b)) (fun c hc => by
    obtain ⟨b, hm, rfl⟩ := List.mem_map.1 hc
    have f := by_facts ⟨b, hb b hm⟩
    exact ⟨f.2.2.1, f.2.2.2.1⟩)).1
  have e3 : on3 (on2 (on1 (join [b0, b1, b2, b3, b4, b5, b6, b7]))) = join (([b0, b1, b2, b3, b4, b5, b6, b7].map fun b => by2 (by1 b)).map fun c => c / 16 + c % 16) := by
    rw [e2, ← h3']; unfold on3; simp only [List.length_map, List.length_cons, List.length_nil, Nat.reduceAdd, mask15]
  have hm : ∀ b, b < 256 → by2 (by1 b) / 16 + by2 (by1 b) % 16 = cnt b.testBit 8 ∧ by2 (by1 b) / 16 + by2 (by1 b) % 16 ≤ 8 := fun b h => by
    have f := by_facts ⟨b, h⟩
    exact ⟨f.2.2.2.2, by have := f.2.2.1; have := f.2.2.2.1; simp only at *; omega⟩
  rw [e3]
  simp only [List.map_cons, List.map_nil]
  rw [(hm b0 h0).1, (hm b1 h1).1, (hm b2 h2).1, (hm b3 h3).1, (hm b4 h4).1, (hm b5 h5).1, (hm b6 h6).1, (hm b7 h7).1]
  exact on_sum _ _ _ _ _ _ _ _ ((hm b0 h0).1 ▸ (hm b0 h0).2) ((hm b1 h1).1 ▸ (hm b1 h1).2) ((hm b2 h2).1 ▸ (hm b2 h2).2) ((hm b3 h3).1 ▸ (hm b3 h3).2) ((hm b4 h4).1 ▸ (hm b4 h4).2) ((hm b5 h5).1 ▸ (hm b5 h5).2) ((hm b6 h6).1 ▸ (hm b6 h6).2) ((hm b7 h7).1 ▸ (hm b7 h7).2)
/-- The bytes of a number below 2 to the 64. -/
theorem ones_eq {x : Nat} (hx : x < w64) : on6 (on5 (on4 (on3 (on2 (on1 x))))) % 128 = cnt x.testBit 64 := by
  unfold w64 at hx
  have hj : x = join [x % 256, x / 256 % 256, x / 65536 % 256, x / 16777216 % 256, x / 4294967296 % 256, x / 1099511627776 % 256, x / 281474976710656 % 256, x / 72057594037927936 % 256] := by
    simp only [join]; omega
  have hb : ∀ i j, j < 8 → x.testBit (8 * i + j) = (x / 2 ^ (8 * i) % 256).testBit j := by
    intro i j h
    rw [show 256 = 2 ^ 8 from rfl, Nat.testBit_mod_two_pow, Nat.testBit_div_two_pow]
    simp [h, Nat.add_comm]
  have hc : ∀ i, cnt (fun j => x.testBit (8 * i + j)) 8 = cnt (x / 2 ^ (8 * i) % 256).testBit 8 := fun i => cnt_congr fun j h => hb i j h
  have h64 : cnt x.testBit 64 = cnt (x % 256).testBit 8 + cnt (x / 256 % 256).testBit 8 + cnt (x / 65536 % 256).testBit 8 + cnt (x / 16777216 % 256).testBit 8 + cnt (x / 4294967296 % 256).testBit 8 + cnt (x / 1099511627776 % 256).testBit 8 + cnt (x / 281474976710656 % 256).testBit 8 + cnt (x / 72057594037927936 % 256).testBit 8 := by
    rw [show 64 = 56 + 8 from rfl, cnt_add, show 56 = 48 + 8 from rfl, cnt_add, show 48 = 40 + 8 from rfl, cnt_add, show 40 = 32 + 8 from rfl, cnt_add, show 32 = 24 + 8 from rfl, cnt_add, show 24 = 16 + 8 from rfl, cnt_add, show 16 = 8 + 8 from rfl, cnt_add]
    have g0 := hc 0; have g1 := hc 1; have g2 := hc 2; have g3 := hc 3; have g4 := hc 4; have g5 := hc 5; have g6 := hc 6; have g7 := hc 7
    simp only [Nat.mul_zero, Nat.zero_add, Nat.pow_zero, Nat.div_one, Nat.reduceMul, Nat.reducePow, Nat.reduceAdd] at *
    rw [g0, g1, g2, g3, g4, g5, g6, g7]
  rw [h64]
  conv => lhs; rw [hj]
  exact on_join _ _ _ _ _ _ _ _ (by omega) (by omega) (by omega) (by omega) (by omega) (by omega) (by omega) (by omega)
end Go.Proofs.Ytachpdeejificaa

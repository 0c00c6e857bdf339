import Derived.Test.YtldjdcdoegjmoaaZ3
import Derived.Test.YtldjdcdoegjmoaaZ5
import Derived.Test.YtldjdcdoegjmoaaZ6
import Derived.Test.YtldjdcdoegjmoaaZ9
import Derived.Test.YtldjdcdoegjmoaaZ10
import Derived.Test.YtldjdcdoegjmoaaZ11
import Derived.Test.YtldjdcdoegjmoaaZ12
import Derived.Test.YtldjdcdoegjmoaaZ13
import Derived.Test.YtldjdcdoegjmoaaZ15
import Derived.Test.YtldjdcdoegjmoaaZ16
import Derived.Test.YtldjdcdoegjmoaaZ18
import Derived.Test.YtldjdcdoegjmoaaZ19
import Derived.Test.YtldjdcdoegjmoaaZ20
import Derived.Test.YtldjdcdoegjmoaaZ21
set_option linter.unusedVariables false
set_option linter.unusedSimpArgs false
namespace Go.Proofs.Ytldjdcdoegjmoaa.P
open Go.RowKit Go.Proofs.YtldjdcdoegjmoaaW.PrintWords Go.Proofs.YtldjdcdoegjmoaaW.PrintLast
theorem wr1 {s : ByteArray} (hs : s.size ≤ bnd) {p : Nat} (hp : p ≤ s.size + 50) : wrap64 ((p : Int) + 1) = ((p + 1 : Nat) : Int) := by
 unfold bnd at hs
 rw [wr_in (by omega) (by omega)]; omega
theorem wr2 {s : ByteArray} (hs : s.size ≤ bnd) {p : Nat} (hp : p ≤ s.size + 50) : wrap64 ((p : Int) + 2) = ((p + 2 : Nat) : Int) := by
 unfold bnd at hs
 rw [wr_in (by omega) (by omega)]; omega
theorem wr3 {s : ByteArray} (hs : s.size ≤ bnd) {p : Nat} (hp : p ≤ s.size + 50) : wrap64 ((p : Int) + 3) = ((p + 3 : Nat) : Int) := by
 unfold bnd at hs
 rw [wr_in (by omega) (by omega)]; omega
theorem wr4 {s : ByteArray} (hs : s.size ≤ bnd) {p : Nat} (hp : p ≤ s.size + 50) : wrap64 ((p : Int) + 4) = ((p + 4 : Nat) : Int) := by
 unfold bnd at hs
 rw [wr_in (by omega) (by omega)]; omega
def escV (s : ByteArray) (p : Nat) : Int × Int := match escE s p with | some (b, n) => (b, (n : Int)) | none => (0, 0)
def escR (s : ByteArray) (p : Nat) : Int × Int := match escE s p with | some (b, n) => (b, ((p + n : Nat) : Int)) | none => (0, (p : Int))
theorem escV_some {s : ByteArray} {p n : Nat} {b : Int} (h : escE s p = some (b, n)) : escV s p = (b, (n : Int)) := by unfold escV; rw [h]
theorem escV_none {s : ByteArray} {p : Nat} (h : escE s p = none) : escV s p = (0, 0) := by unfold escV; rw [h]
theorem escR_some {s : ByteArray} {p n : Nat} {b : Int} (h : escE s p = some (b, n)) : escR s p = (b, ((p + n : Nat) : Int)) := by unfold escR; rw [h]
theorem escR_none {s : ByteArray} {p : Nat} (h : escE s p = none) : escR s p = (0, (p : Int)) := by unfold escR; rw [h]
theorem hexs_wrap (a b : Int) (h0 : 0 ≤ a) (h1 : a ≤ 15) (h2 : 0 ≤ b) (h3 : b ≤ 15) : (wrap64 ((wrap64 (16 * a)) + b)) % 256 = 16 * a + b := by
 rw [wr_in (x := 16 * a) (by omega) (by omega), wr_in (by omega) (by omega)]; omega
theorem escape_f (s : ByteArray) (hs : s.size ≤ bnd) (p k : Nat) (hp : p < s.size) (hk : 3 < k) : lexis_escape.f k s (p : Int) = some (escV s p) := by
 have hb := hs
 unfold bnd at hb
 obtain ⟨k, rfl⟩ : ∃ m, k = m + 1 := ⟨k - 1, by omega⟩
 have r2 := bt_range s ((p + 2 : Nat) : Int)
 have r3 := bt_range s ((p + 3 : Nat) : Int)
 have x2 := hexE_range (bt s ((p + 2 : Nat) : Int))
 have x3 := hexE_range (bt s ((p + 3 : Nat) : Int))
 unfold lexis_escape.f escV escE
 rw [show wrap64 ((p : Int) + 1) = ((p + 1 : Nat) : Int) by rw [wr_in (by omega) (by omega)]; omega, show wrap64 ((p : Int) + 2) = ((p + 2 : Nat) : Int) by rw [wr_in (by omega) (by omega)]; omega,
  show wrap64 ((p : Int) + 3) = ((p + 3 : Nat) : Int) by rw [wr_in (by omega) (by omega)]; omega]
 by_cases h : p + 1 < s.size
 · rw [if_neg (by omega), if_pos (by omega), if_pos (by omega), if_pos h]
   by_cases h1 : bt s ((p + 1 : Nat) : Int) = 110
   · rw [if_pos h1, if_pos h1]; rfl
   rw [if_neg h1, if_neg h1]
   by_cases h2 : bt s ((p + 1 : Nat) : Int) = 114
   · rw [if_pos h2, if_pos h2]; rfl
   rw [if_neg h2, if_neg h2]
   by_cases h3 : bt s ((p + 1 : Nat) : Int) = 116
   · rw [if_pos h3, if_pos h3]; rfl
   rw [if_neg h3, if_neg h3]
   by_cases h4 : bt s ((p + 1 : Nat) : Int) = 92
   · rw [if_pos h4, if_pos (.inl h4)]; rfl
   rw [if_neg h4]
   by_cases h5 : bt s ((p + 1 : Nat) : Int) = 39
   · rw [if_pos h5, if_pos (.inr (.inl h5))]; rfl
   rw [if_neg h5]
   by_cases h6 : bt s ((p + 1 : Nat) : Int) = 34
   · rw [if_pos h6, if_pos (.inr (.inr h6))]; rfl
   rw [if_neg h6, if_neg (c := bt s ((p + 1 : Nat) : Int) = 92 ∨ _) (fun q => q.elim h4 (fun q => q.elim h5 h6))]
   by_cases h7 : bt s ((p + 1 : Nat) : Int) = 120
   · rw [if_pos h7]
     by_cases h8 : p + 3 < s.size
     · rw [if_pos (by omega), if_pos (by omega), if_pos (by omega), hex_f _ (k + 1) (by omega) r2.1 r2.2]
       simp only [Option.bind_some]
       by_cases h9 : 0 ≤ hexE (bt s ((p + 2 : Nat) : Int))
       · rw [if_pos h9, if_pos (by omega), hex_f _ (k + 1) (by omega) r3.1 r3.2]
         simp only [Option.bind_some, lexis_escape.j0]
         rw [show wrap64 ((p : Int) + 2) = ((p + 2 : Nat) : Int) by rw [wr_in (by omega) (by omega)]; omega, show wrap64 ((p : Int) + 3) = ((p + 3 : Nat) : Int) by rw [wr_in (by omega) (by omega)]; omega]
         by_cases h10 : 0 ≤ hexE (bt s ((p + 3 : Nat) : Int))
         · rw [if_pos (decide_eq_true h10), if_pos (by omega), if_pos (by omega), hex_f _ k (by omega) r2.1 r2.2, if_pos (c := bt s ((p + 1 : Nat) : Int) = 120 ∧ _) ⟨h7, h8, h9, h10⟩]
           simp only [Option.bind_some]
           rw [if_pos (by omega), if_pos (by omega), hex_f _ k (by omega) r3.1 r3.2]
           simp only [Option.bind_some]
           rw [hexs_wrap _ _ h9 x2.2 h10 x3.2]; rfl
         · rw [if_neg (by simpa using h10), if_neg (fun q => h10 q.2.2.2)]
       · rw [if_neg h9, if_neg (fun q => h9 q.2.2.1)]
         simp only [lexis_escape.j0]
         rw [if_neg (by simp)]
     · rw [if_neg (by omega), if_neg (fun q => h8 q.2.1)]
       simp only [lexis_escape.j0]
       rw [if_neg (by simp)]
   · rw [if_neg h7, if_neg (fun q => h7 q.1)]
 · rw [if_pos (by omega), if_neg h]
theorem refEscape_f (s : ByteArray) (hs : s.size ≤ bnd) (p k : Nat) (hp : p < s.size) (hk : 6 < k) : dowelref04_escape.f k s (p : Int) = some (escR s p) := by
 have hb := hs
 unfold bnd at hb
 obtain ⟨k, rfl⟩ : ∃ m, k = m + 1 + 1 := ⟨k - 2, by omega⟩
 have r2 := bt_range s ((p + 2 : Nat) : Int)
 have r3 := bt_range s ((p + 3 : Nat) : Int)
 have x2 := hexE_range (bt s ((p + 2 : Nat) : Int))
 have x3 := hexE_range (bt s ((p + 3 : Nat) : Int))
 unfold dowelref04_escape.f escR escE
 have hp' : p ≤ s.size + 50 := by omega
 have w1 := wr1 hs hp'
 have w2 := wr2 hs hp'
 have w3 := wr3 hs hp'
 have w4 := wr4 hs hp'
 simp only [w1, w2, dowelref04_escape.j0, w3]
 by_cases h : p + 1 < s.size
 · have c1 : ((p + 1 : Nat) : Int) < (s.size : Int) := by clear w1 w2 w3 w4; omega
   have c0 : (0 : Int) ≤ ((p + 1 : Nat) : Int) := by clear w1 w2 w3 w4; omega
   rw [if_neg (Int.not_le.2 c1), if_pos c0, if_pos c1, if_pos h]
   by_cases h1 : bt s ((p + 1 : Nat) : Int) = 110
   · rw [if_pos h1, if_pos h1]
   rw [if_neg h1, if_neg h1]
   by_cases h2 : bt s ((p + 1 : Nat) : Int) = 114
   · rw [if_pos h2, if_pos h2]
   rw [if_neg h2, if_neg h2]
   by_cases h3 : bt s ((p + 1 : Nat) : Int) = 116
   · rw [if_pos h3, if_pos h3]
   rw [if_neg h3, if_neg h3]
   by_cases h4 : bt s ((p + 1 : Nat) : Int) = 92
   · rw [if_pos h4, if_pos (by simpa using h4), if_pos c0, if_pos c1, if_pos (.inl h4)]
   rw [if_neg h4]
   by_cases h5 : bt s ((p + 1 : Nat) : Int) = 39
   · rw [if_pos h5, if_pos (by simpa using h5), if_pos c0, if_pos c1, if_pos (.inr (.inl h5))]
   rw [if_neg h5]
   by_cases h6 : bt s ((p + 1 : Nat) : Int) = 34
   · rw [if_pos (by simpa using h6), if_pos c0, if_pos c1, if_pos (.inr (.inr h6))]
   rw [if_neg (by simpa using h6), if_neg (c := bt s ((p + 1 : Nat) : Int) = 92 ∨ _) (fun q => q.elim h4 (fun q => q.elim h5 h6))]
   have jf : ∀ b : Bool, b = false → dowelref04_escape.j1 (k + 1) s (p : Int) b = some (0, (p : Int)) := by
    intro b hb2; subst hb2
    simp only [dowelref04_escape.j1]
    rw [if_neg (by simp)]
   by_cases h7 : bt s ((p + 1 : Nat) : Int) = 120
   · rw [if_pos h7]
     by_cases h8 : p + 3 < s.size
     · have c2 : ((p + 2 : Nat) : Int) < (s.size : Int) := by clear w1 w2 w3 w4; omega
       have c3 : ((p + 3 : Nat) : Int) < (s.size : Int) := by clear w1 w2 w3 w4; omega
       have d2 : (0 : Int) ≤ ((p + 2 : Nat) : Int) := by clear w1 w2 w3 w4; omega
       have d3 : (0 : Int) ≤ ((p + 3 : Nat) : Int) := by clear w1 w2 w3 w4; omega
       rw [if_pos c3, if_pos d2, if_pos c2, refDigit3_f _ (k + 1) (by clear w1 w2 w3 w4; omega) r2.1 r2.2]
       simp only [Option.bind_some]
       by_cases h9 : 0 ≤ hexE (bt s ((p + 2 : Nat) : Int))
       · rw [if_pos h9, if_pos d3, refDigit3_f _ (k + 1) (by clear w1 w2 w3 w4; omega) r3.1 r3.2]
         simp only [Option.bind_some]
         by_cases h10 : 0 ≤ hexE (bt s ((p + 3 : Nat) : Int))
         · rw [show decide (hexE (bt s ((p + 3 : Nat) : Int)) ≥ 0) = true from decide_eq_true h10, if_pos (c := bt s ((p + 1 : Nat) : Int) = 120 ∧ _) ⟨h7, h8, h9, h10⟩]
           simp only [dowelref04_escape.j1, w2, w3, w4]
           rw [if_pos trivial, if_pos d2, if_pos c2, refDigit3_f _ k (by clear w1 w2 w3 w4; omega) r2.1 r2.2]
           simp only [Option.bind_some]
           rw [if_pos d3, if_pos c3, refDigit3_f _ k (by clear w1 w2 w3 w4; omega) r3.1 r3.2]
           simp only [Option.bind_some]
           rw [hexs_wrap _ _ h9 x2.2 h10 x3.2]
         · rw [jf _ (decide_eq_false h10), if_neg (fun q => h10 q.2.2.2)]
       · rw [if_neg h9, if_neg (fun q => h9 q.2.2.1), jf _ rfl]
     · rw [if_neg (by clear w1 w2 w3 w4; omega), if_neg (fun q => h8 q.2.1), jf _ rfl]
   · rw [if_neg h7, if_neg (fun q => h7 q.1)]
 · rw [if_pos (by clear w1 w2 w3 w4; omega), if_neg h]
def litEnd (s : ByteArray) (p : Nat) (acc : List Int) (q : Nat) : TV :=
 if q + 1 < s.size ∧ bt s ((q + 1 : Nat) : Int) = 105 ∧ ¬ (q + 2 < s.size ∧ alnumB (bt s ((q + 2 : Nat) : Int)) = true) then (14, (p : Int), ((q + 2 : Nat) : Int), strOfNums acc, true, 0, 0, 0, 0, 0, 0, 0, 0)
 else (14, (p : Int), ((q + 1 : Nat) : Int), strOfNums acc, false, 0, 0, 0, 0, 0, 0, 0, 0)
def litE (s : ByteArray) (p : Nat) : Nat → List Int → Nat → TV
 | 0, _, _ => faultV p 41
 | d + 1, acc, q =>
   if q < s.size ∧ ¬ bt s (q : Int) < 32 then
    if bt s (q : Int) = bt s (p : Int) then litEnd s p acc q
    else if bt s (q : Int) = 92 then (match escE s q with | none => faultV q 42 | some (b, n) => litE s p d (acc ++ [b]) (q + n))
    else litE s p d (acc ++ [bt s (q : Int)]) (q + 1)
   else faultV p 41
theorem lit_j2 {s : ByteArray} (hs : s.size ≤ bnd) (k : Nat) (b : Bool) (p : Int) (q : Nat) (t : ByteArray) (hq : q + 1 ≤ s.size + 50) (hk : 0 < k) :
 lexis_literal.j2 k b 14 p ((q + 1 : Nat) : Int) t false 0 0 0 0 0 0 = some (14, p, if b = true then ((q + 2 : Nat) : Int) else ((q + 1 : Nat) : Int), t, b, 0, 0, 0, 0, 0, 0, 0, 0) := by
 obtain ⟨k, rfl⟩ : ∃ m, k = m + 1 := ⟨k - 1, by omega⟩
 have w := wr1 hs hq
 simp only [lexis_literal.j2, w]
 cases b <;> rfl
theorem literal_l (s : ByteArray) (hs : s.size ≤ bnd) (p : Nat) (hp : p < s.size) : ∀ (d k q : Nat) (acc : List Int), s.size < q + d → 2 * d + 9 < k → q ≤ s.size → acc.length ≤ q →
 lexis_literal.l0 k s (p : Int) acc (q : Int) = some (litE s p d acc q) := by
 have hb := hs
 unfold bnd at hb
 intro d
 induction d with
 | zero => intro k q acc hd hk hq hl; omega
 | succ d ih =>
   intro k q acc hd hk hq hl
   obtain ⟨k, rfl⟩ : ∃ m, k = m + 1 + 1 := ⟨k - 2, by omega⟩
   have bad : ∀ b : Bool, b = true → lexis_literal.j1 (k + 1) s (p : Int) acc (q : Int) b = some (faultV p 41) := by
    intro b hb2; subst hb2
    simp only [lexis_literal.j1, tv_eta, fault_f]
    rw [if_pos trivial]
   simp only [lexis_literal.l0, litE]
   by_cases hlt : q < s.size
   · rw [if_neg (by omega), if_pos (by omega), if_pos (by omega)]
     by_cases h32 : bt s (q : Int) < 32
     · rw [bad _ (decide_eq_true h32), if_neg (fun h => h.2 h32)]
     · rw [decide_eq_false h32, if_pos (c := q < s.size ∧ _) ⟨hlt, h32⟩]
       simp only [lexis_literal.j1, tv_eta, fault_f]
       rw [if_neg (by simp), if_pos (by omega), if_pos (by omega), if_pos (by omega), if_pos (by omega)]
       have hq' : q ≤ s.size + 50 := by omega
       have hq1 : q + 1 ≤ s.size + 50 := by omega
       have w1 := wr1 hs hq'
       by_cases hqp : bt s (q : Int) = bt s (p : Int)
       · have w2 := wr2 hs hq'
         rw [if_pos hqp, if_pos hqp, w1, w2]
         clear w1 w2
         unfold litEnd
         by_cases h1 : q + 1 < s.size
         · rw [if_pos (by omega), if_pos (by omega)]
           by_cases h105 : bt s ((q + 1 : Nat) : Int) = 105
           · rw [if_pos h105]
             by_cases h2 : q + 2 < s.size
             · rw [if_neg (by omega), if_pos (by omega), if_pos (by omega), lexis_letter_f, lexis_digit_f]
               simp only [Option.bind_some]
               by_cases hL : letterB (bt s ((q + 2 : Nat) : Int)) = true
               · rw [if_pos hL, if_neg (fun h => h.2.2 ⟨h2, by unfold alnumB; rw [hL]; rfl⟩), lit_j2 hs _ _ _ _ _ hq1 (by omega)]; rfl
               · rw [if_neg hL, lit_j2 hs _ _ _ _ _ hq1 (by omega)]
                 by_cases hD : digitB (bt s ((q + 2 : Nat) : Int)) = true
                 · rw [if_neg (c := q + 1 < s.size ∧ _) (fun h => h.2.2 ⟨h2, by unfold alnumB; rw [hD, Bool.or_true]⟩), hD]; rfl
                 · rw [if_pos (c := q + 1 < s.size ∧ _) ⟨h1, h105, fun h => by have := h.2; unfold alnumB at this; rw [Bool.or_eq_true] at this; exact this.elim hL hD⟩, Bool.eq_false_iff.2 hD]; rfl
             · rw [if_pos (by omega), if_pos ⟨h1, h105, fun h => h2 h.1⟩, lit_j2 hs _ _ _ _ _ hq1 (by omega)]; rfl
           · rw [if_neg h105, if_neg (fun h => h105 h.2.1), lit_j2 hs _ _ _ _ _ hq1 (by omega)]; rfl
         · rw [if_neg (by omega), if_neg (fun h => h1 h.1), lit_j2 hs _ _ _ _ _ hq1 (by omega)]; rfl
       · rw [if_neg hqp, if_neg hqp]
         by_cases h92 : bt s (q : Int) = 92
         · rw [if_pos h92, if_pos h92, escape_f s hs q k hlt (by clear w1; omega)]
           simp only [Option.bind_some]
           clear w1
           match he : escE s q with
           | none =>
             rw [escV_none he]
             dsimp only
             rw [if_pos rfl]
           | some (b, n) =>
             have h3 := escE_some he
             rw [escV_some he]
             dsimp only
             rw [if_neg (by omega), if_pos (by omega), show wrap64 ((q : Int) + (n : Int)) = ((q + n : Nat) : Int) by rw [wr_in (by omega) (by omega)]; omega]
             exact ih k (q + n) _ (by omega) (by omega) (by omega) (by rw [List.length_append, List.length_singleton]; omega)
         · rw [if_neg h92, if_neg h92, w1]
           clear w1
           rw [if_pos (by omega)]
           exact ih k (q + 1) _ (by omega) (by omega) (by omega) (by rw [List.length_append, List.length_singleton]; omega)
   · rw [if_pos (by omega), bad _ rfl, if_neg (fun h => hlt h.1)]
theorem literal_f (s : ByteArray) (hs : s.size ≤ bnd) (p k : Nat) (hp : p < s.size) (hk : 2 * s.size + 20 < k) : lexis_literal.f k s (p : Int) = some (litE s p (s.size + 1) [] (p + 1)) := by
 have hb := hs
 unfold bnd at hb
 unfold lexis_literal.f
 rw [show wrap64 ((p : Int) + 1) = ((p + 1 : Nat) : Int) by rw [wr_in (by omega) (by omega)]; omega]
 exact literal_l s hs p hp (s.size + 1) k (p + 1) [] (by omega) (by omega) (by omega) (by simp)
theorem refLiteral_l (s : ByteArray) (hs : s.size ≤ bnd) (p : Nat) (hp : p < s.size) : ∀ (d k q : Nat) (acc : List Int), s.size < q + d → 2 * d + 10 < k → q ≤ s.size → acc.length ≤ q →
 dowelref04_literal.l0 k s (p : Int) acc (q : Int) = some (litE s p d acc q) := by
 have hb := hs
 unfold bnd at hb
 intro d
 induction d with
 | zero => intro k q acc hd hk hq hl; omega
 | succ d ih =>
   intro k q acc hd hk hq hl
   obtain ⟨k, rfl⟩ : ∃ m, k = m + 1 + 1 := ⟨k - 2, by omega⟩
   have bad : ∀ b : Bool, b = true → dowelref04_literal.j1 (k + 1) s (p : Int) acc (q : Int) b = some (faultV p 41) := by
    intro b hb2; subst hb2
    simp only [dowelref04_literal.j1, tv_eta, refFault_f]
    rw [if_pos trivial]
   simp only [dowelref04_literal.l0, litE]
   by_cases hlt : q < s.size
   · rw [if_neg (by omega), if_pos (by omega), if_pos (by omega)]
     by_cases h32 : bt s (q : Int) < 32
     · rw [bad _ (decide_eq_true h32), if_neg (fun h => h.2 h32)]
     · rw [decide_eq_false h32, if_pos (c := q < s.size ∧ _) ⟨hlt, h32⟩]
       simp only [dowelref04_literal.j1, tv_eta, refFault_f]
       rw [if_neg (by simp), if_pos (by omega), if_pos (by omega), if_pos (by omega), if_pos (by omega)]
       have hq' : q ≤ s.size + 50 := by omega
       have hq1 : q + 1 ≤ s.size + 50 := by omega
       have w1 := wr1 hs hq'
       by_cases hqp : bt s (q : Int) = bt s (p : Int)
       · have w11 : wrap64 (((q + 1 : Nat) : Int) + 1) = ((q + 2 : Nat) : Int) := wr1 hs hq1
         rw [if_pos hqp, if_pos hqp, w1, w11, at_f]
         clear w1 w11
         simp only [Option.bind_some]
         unfold litEnd
         by_cases h1 : q + 1 < s.size ∧ bt s ((q + 1 : Nat) : Int) = 105
         · rw [if_pos (decide_eq_true h1)]
           obtain ⟨h1, h105⟩ := h1
           by_cases h2 : q + 2 < s.size
           · rw [if_neg (by omega), if_pos (by omega), if_pos (by omega), refLetter_f, refDigit_f]
             simp only [Option.bind_some]
             by_cases hL : letterB (bt s ((q + 2 : Nat) : Int)) = true
             · rw [if_pos hL, if_neg (fun h => h.2.2 ⟨h2, by unfold alnumB; rw [hL]; rfl⟩)]
             · rw [if_neg hL]
               by_cases hD : digitB (bt s ((q + 2 : Nat) : Int)) = true
               · rw [if_pos hD, if_neg (fun h => h.2.2 ⟨h2, by unfold alnumB; rw [hD, Bool.or_true]⟩), hD]; rfl
               · rw [if_neg hD, if_pos ⟨h1, h105, fun h => by have := h.2; unfold alnumB at this; rw [Bool.or_eq_true] at this; exact this.elim hL hD⟩, Bool.eq_false_iff.2 hD]; rfl
           · rw [if_pos (by omega), if_pos ⟨h1, h105, fun h => h2 h.1⟩]
         · rw [if_neg (by simpa using h1), if_neg (fun h => h1 ⟨h.1, h.2.1⟩)]
       · rw [if_neg hqp, if_neg hqp]
         by_cases h92 : bt s (q : Int) = 92
         · rw [if_pos h92, if_pos h92, refEscape_f s hs q k hlt (by clear w1; omega)]
           simp only [Option.bind_some]
           clear w1
           match he : escE s q with
           | none =>
             rw [escR_none he]
             dsimp only
             rw [if_pos rfl]
           | some (b, n) =>
             have h3 := escE_some he
             rw [escR_some he]
             dsimp only
             rw [if_neg (by omega), if_pos (by omega)]
             exact ih k (q + n) _ (by omega) (by omega) (by omega) (by rw [List.length_append, List.length_singleton]; omega)
         · rw [if_neg h92, if_neg h92, w1]
           clear w1
           rw [if_pos (by omega)]
           exact ih k (q + 1) _ (by omega) (by omega) (by omega) (by rw [List.length_append, List.length_singleton]; omega)
   · rw [if_pos (by omega), bad _ rfl, if_neg (fun h => hlt h.1)]
theorem refLiteral_f (s : ByteArray) (hs : s.size ≤ bnd) (p k : Nat) (hp : p < s.size) (hk : 2 * s.size + 20 < k) : dowelref04_literal.f k s (p : Int) = some (litE s p (s.size + 1) [] (p + 1)) := by
 have hb := hs
 unfold bnd at hb
 unfold dowelref04_literal.f
 rw [show wrap64 ((p : Int) + 1) = ((p + 1 : Nat) : Int) by rw [wr_in (by omega) (by omega)]; omega]
 exact refLiteral_l s hs p hp (s.size + 1) k (p + 1) [] (by omega) (by omega) (by omega) (by simp)
end Go.Proofs.Ytldjdcdoegjmoaa.P
set_option linter.unusedVariables false
set_option linter.unusedSimpArgs false
namespace Go.Proofs.Ytldjdcdoegjmoaa.P
open Go.RowKit Go.Proofs.YtldjdcdoegjmoaaW.PrintWords Go.Proofs.YtldjdcdoegjmoaaW.PrintLast
def signE (c : Int) : Int :=
 if c = 47 then 3 else if c = 38 then 4 else if c = 33 then 5 else if c = 63 then 6 else if c = 42 then 7 else if c = 43 then 8 else if c = 40 then 10 else if c = 41 then 11 else if c = 44 then 12 else if c = 46 then 13 else -1
theorem sign_f (c : Int) : lexis_sign.f c = some (signE c) := by
 unfold lexis_sign.f signE
 repeat' split
 all_goals rfl
theorem refSign_f (c : Int) : dowelref04_sign.f c = some (signE c) := by
 unfold dowelref04_sign.f signE
 repeat' split
 all_goals rfl
theorem letter_not {c : Int} (h : letterB c = true) : signE c = -1 ∧ c ≠ 60 ∧ c ≠ 123 ∧ c ≠ 39 ∧ c ≠ 34 ∧ c ≠ 91 ∧ c ≠ 64 ∧ c ≠ 94 := by
 have hc : 97 ≤ c ∧ c ≤ 122 ∨ 65 ≤ c ∧ c ≤ 90 ∨ c = 95 := by unfold letterB at h; simpa [or_assoc] using h
 refine ⟨?_, by omega, by omega, by omega, by omega, by omega, by omega, by omega⟩
 unfold signE
 repeat' split
 all_goals omega
def plainV (k p e : Int) : TV := (k, p, e, ⟨#[]⟩, false, 0, 0, 0, 0, 0, 0, 0, 0)
def wordV (k p e : Int) (t : ByteArray) : TV := (k, p, e, t, false, 0, 0, 0, 0, 0, 0, 0, 0)
def wordE (s : ByteArray) (p : Nat) : TV := if nameE s p - p > 64 then faultV p 1 else wordV 1 p ((nameE s p : Nat) : Int) (s.extract p (nameE s p))
def markE (s : ByteArray) (p : Nat) : TV :=
 if ownE s (p + 1) = p + 1 then faultV p 40 else if ownE s (p + 1) - (p + 1) > 64 then faultV p 1
 else wordV (if bt s (p : Int) = 94 then 17 else 16) p ((ownE s (p + 1) : Nat) : Int) (s.extract (p + 1) (ownE s (p + 1)))
def classV (s : ByteArray) (p : Nat) : TV :=
 if (((parseI s p).2.2.2 : Nat) : Int) = 0 then (15, (p : Int), ((parseI s p).2.1 : Int), ⟨#[]⟩, false, ((parseI s p).1.c0 : Int), ((parseI s p).1.c1 : Int), ((parseI s p).1.c2 : Int), ((parseI s p).1.c3 : Int), 0, 0, 0, 0)
 else faultV ((parseI s p).2.2.1 : Int) ((parseI s p).2.2.2 : Int)
def tokE (s : ByteArray) (p : Nat) : TV :=
 if p < s.size then
  if 0 ≤ signE (bt s (p : Int)) then plainV (signE (bt s (p : Int))) p ((p + 1 : Nat) : Int)
  else if letterB (bt s (p : Int)) = true then wordE s p
  else if bt s (p : Int) = 60 ∧ p + 1 < s.size ∧ bt s ((p + 1 : Nat) : Int) = 45 then plainV 2 p ((p + 2 : Nat) : Int)
  else if bt s (p : Int) = 123 then countE s p
  else if bt s (p : Int) = 39 ∨ bt s (p : Int) = 34 then litE s p (s.size + 1) [] (p + 1)
  else if bt s (p : Int) = 91 then classV s p
  else if bt s (p : Int) = 64 ∨ bt s (p : Int) = 94 then markE s p
  else faultV p 40
 else plainV 0 p p
theorem word_f (s : ByteArray) (hs : s.size ≤ bnd) (p k : Nat) (hp : p ≤ s.size) (hk : s.size + 6 < k) : lexis_word.f k s (p : Int) = some (wordE s p) := by
 have h1 := nameE_ge s p
 have h2 := nameE_size s p hp
 have hb := hs
 unfold bnd at hb
 unfold lexis_word.f wordE
 rw [named_f s hs p k hp hk]
 simp only [Option.bind_some, tv_eta, fault_f]
 have e : wrap64 ((p : Int) + ((nameE s p - p : Nat) : Int)) = ((nameE s p : Nat) : Int) := by rw [wr_in (by omega) (by omega)]; omega
 rw [e]
 clear e
 by_cases h : nameE s p - p > 64
 · rw [if_pos (by omega), if_pos h]; try rfl
 · rw [if_neg (by omega), if_neg h, if_pos (by omega), if_pos (by omega), if_pos (by omega), Int.toNat_natCast, Int.toNat_natCast]; try rfl
theorem marked_f (s : ByteArray) (hs : s.size ≤ bnd) (p k : Nat) (hp : p < s.size) (hk : s.size + 6 < k) : lexis_marked.f k s (p : Int) = some (markE s p) := by
 have h1 := ownE_ge s (p + 1)
 have h2 := ownE_size s (p + 1) (by omega)
 have hb := hs
 unfold bnd at hb
 unfold lexis_marked.f markE
 rw [wr1 hs (by omega), own_f s hs (p + 1) k (by omega) (by omega)]
 simp only [Option.bind_some, tv_eta, fault_f]
 have e : wrap64 (((p + 1 : Nat) : Int) + ((ownE s (p + 1) - (p + 1) : Nat) : Int)) = ((ownE s (p + 1) : Nat) : Int) := by rw [wr_in (by omega) (by omega)]; omega
 rw [e]
 clear e
 by_cases h0 : ownE s (p + 1) = p + 1
 · rw [if_pos (by omega), if_pos h0]; try rfl
 · rw [if_neg (by omega), if_neg h0]
   by_cases h : ownE s (p + 1) - (p + 1) > 64
   · rw [if_pos (by omega), if_pos h]; try rfl
   · rw [if_neg (by omega), if_neg h, if_pos (by omega), if_pos (by omega)]
     by_cases h94 : bt s (p : Int) = 94
     · rw [if_pos h94, if_pos h94, if_pos (by omega), if_pos (by omega), if_pos (by omega), Int.toNat_natCast, Int.toNat_natCast]; try rfl
     · rw [if_neg h94, if_neg h94, if_pos (by omega), if_pos (by omega), if_pos (by omega), Int.toNat_natCast, Int.toNat_natCast]; try rfl
theorem clsParse_f (s : ByteArray) (hs : s.size ≤ 65536) (p : Nat) (hp : p ≤ s.size) : class_Parse.f s (p : Int) = some (((parseI s p).1.c0 : Int), ((parseI s p).1.c1 : Int), ((parseI s p).1.c2 : Int), ((parseI s p).1.c3 : Int), ((parseI s p).2.1 : Int), ((parseI s p).2.2.1 : Int), ((parseI s p).2.2.2 : Int)) := by
 unfold class_Parse.f smallN
 rw [if_pos ⟨by omega, by omega, by omega⟩]
theorem refParse_f (s : ByteArray) (hs : s.size ≤ 65536) (p : Nat) (hp : p ≤ s.size) : dowelref03_Parse.f s (p : Int) = some (((parseI s p).1.c0 : Int), ((parseI s p).1.c1 : Int), ((parseI s p).1.c2 : Int), ((parseI s p).1.c3 : Int), ((parseI s p).2.1 : Int), ((parseI s p).2.2.1 : Int), ((parseI s p).2.2.2 : Int)) := by
 unfold dowelref03_Parse.f smallN
 rw [if_pos ⟨by omega, by omega, by omega⟩]
theorem read_j2 (s : ByteArray) (hs : s.size ≤ bnd) (p k : Nat) (hp : p < s.size) (hk : s.size + 10 < k) (b : Bool) : lexis_read.j2 k s (p : Int) b = some (if b = true then markE s p else faultV p 40) := by
 obtain ⟨k, rfl⟩ : ∃ m, k = m + 1 := ⟨k - 1, by omega⟩
 simp only [lexis_read.j2, tv_eta, fault_f]
 cases b
 · rw [if_neg (by simp), if_neg (by simp)]; try rfl
 · rw [if_pos (by simp), if_pos (by simp), marked_f s hs p k hp (by omega)]
theorem read_j1 (s : ByteArray) (hs : s.size ≤ 65536) (p k : Nat) (hp : p < s.size) (hk : 2 * s.size + 30 < k) (b : Bool) (hb : b = true ↔ (bt s (p : Int) = 39 ∨ bt s (p : Int) = 34)) :
 lexis_read.j1 k s (p : Int) (bt s (p : Int)) b = some (if bt s (p : Int) = 39 ∨ bt s (p : Int) = 34 then litE s p (s.size + 1) [] (p + 1) else if bt s (p : Int) = 91 then classV s p else if bt s (p : Int) = 64 ∨ bt s (p : Int) = 94 then markE s p else faultV p 40) := by
 have hs' : s.size ≤ bnd := by unfold bnd; omega
 obtain ⟨k, rfl⟩ : ∃ m, k = m + 1 := ⟨k - 1, by omega⟩
 simp only [lexis_read.j1, tv_eta]
 by_cases hq : bt s (p : Int) = 39 ∨ bt s (p : Int) = 34
 · rw [if_pos (hb.2 hq), if_pos hq, literal_f s hs' p k hp (by omega)]
 · rw [if_neg (fun h => hq (hb.1 h)), if_neg hq]
   by_cases h91 : bt s (p : Int) = 91
   · rw [if_pos h91, if_pos h91, clsParse_f s hs p (by omega)]
     simp only [Option.bind_some]
     unfold classV
     by_cases h0 : (((parseI s p).2.2.2 : Nat) : Int) = 0
     · rw [if_pos h0, if_pos h0]
     · rw [if_neg h0, if_neg h0]; try rfl
   · rw [if_neg h91, if_neg h91]
     by_cases h64 : bt s (p : Int) = 64
     · rw [if_pos h64, read_j2 s hs' p k hp (by omega), if_pos rfl, if_pos (.inl h64)]
     · rw [if_neg h64, read_j2 s hs' p k hp (by omega)]
       by_cases h94 : bt s (p : Int) = 94
       · rw [if_pos (c := (bt s (p : Int) == 94) = true) (by simpa using h94), if_pos (c := bt s (p : Int) = 64 ∨ _) (.inr h94)]
       · rw [if_neg (c := (bt s (p : Int) == 94) = true) (by simpa using h94), if_neg (c := bt s (p : Int) = 64 ∨ _) (fun h => h.elim h64 h94)]
theorem read_j0 (s : ByteArray) (hs : s.size ≤ 65536) (p k : Nat) (hp : p < s.size) (hk : 2 * s.size + 40 < k) (b : Bool) :
 lexis_read.j0 k s (p : Int) (bt s (p : Int)) b = some (if b = true then plainV 2 p ((p + 2 : Nat) : Int) else if bt s (p : Int) = 123 then countE s p
  else if bt s (p : Int) = 39 ∨ bt s (p : Int) = 34 then litE s p (s.size + 1) [] (p + 1) else if bt s (p : Int) = 91 then classV s p else if bt s (p : Int) = 64 ∨ bt s (p : Int) = 94 then markE s p else faultV p 40) := by
 have hs' : s.size ≤ bnd := by unfold bnd; omega
 obtain ⟨k, rfl⟩ : ∃ m, k = m + 1 := ⟨k - 1, by omega⟩
 simp only [lexis_read.j0, tv_eta]
 cases b
 · rw [if_neg (c := false = true) (by simp), if_neg (c := false = true) (by simp)]
   by_cases h123 : bt s (p : Int) = 123
   · rw [if_pos h123, if_pos h123, count_f s hs' p k hp (by omega)]
   · rw [if_neg h123, if_neg h123]
     by_cases h39 : bt s (p : Int) = 39
     · rw [if_pos h39, read_j1 s hs p k hp (by omega) _ ⟨fun _ => .inl h39, fun _ => rfl⟩]
     · rw [if_neg h39, read_j1 s hs p k hp (by omega) _ ⟨fun h => .inr (by simpa using h), fun h => by simpa using h.resolve_left h39⟩]
 · rw [if_pos (by simp), if_pos (by simp), wr2 hs' (by omega)]; try rfl
theorem read_f (s : ByteArray) (hs : s.size ≤ 65536) (p k : Nat) (hp : p ≤ s.size) (hk : 2 * s.size + 60 < k) : lexis_read.f k s (p : Int) = some (tokE s p) := by
 have hs' : s.size ≤ bnd := by unfold bnd; omega
 unfold lexis_read.f tokE
 by_cases h : p < s.size
 · rw [if_neg (by omega), if_pos (by omega), if_pos (by omega), if_pos h, sign_f]
   simp only [Option.bind_some, tv_eta]
   by_cases hS : 0 ≤ signE (bt s (p : Int))
   · rw [if_pos hS, if_pos hS, wr1 hs' (by omega)]; try rfl
   · rw [if_neg hS, if_neg hS, lexis_letter_f]
     simp only [Option.bind_some]
     by_cases hL : letterB (bt s (p : Int)) = true
     · rw [if_pos hL, if_pos hL, word_f s hs' p k hp (by omega)]
     · rw [if_neg hL, if_neg hL]
       by_cases h60 : bt s (p : Int) = 60
       · rw [if_pos h60, if_pos (by omega), Int.toNat_natCast, prefix2_f s p 60 45 hp]
         simp only [Option.bind_some]
         rw [read_j0 s hs p k h (by omega)]
         by_cases h45 : p + 1 < s.size ∧ bt s ((p + 1 : Nat) : Int) = 45
         · rw [show pre2B s p 60 45 = true by unfold pre2B; exact decide_eq_true ⟨h45.1, h60, h45.2⟩, if_pos rfl, if_pos ⟨h60, h45⟩]
         · rw [show pre2B s p 60 45 = false by unfold pre2B; exact decide_eq_false (fun h' => h45 ⟨h'.1, h'.2.2⟩), if_neg (by simp), if_neg (c := bt s (p : Int) = 60 ∧ _) (fun h' => h45 h'.2)]
       · rw [if_neg h60, read_j0 s hs p k h (by omega), if_neg (by simp), if_neg (c := bt s (p : Int) = 60 ∧ _) (fun h' => h60 h'.1)]
 · obtain rfl : p = s.size := by omega
   rw [if_pos rfl, if_neg h]; try rfl
theorem token_j2 (s : ByteArray) (hs : s.size ≤ bnd) (p k : Nat) (hp : p < s.size) (hk : s.size + 10 < k) (b : Bool) : dowelref04_token.j2 k s (p : Int) (bt s (p : Int)) b = some (if b = true then markE s p else faultV p 40) := by
 obtain ⟨k, rfl⟩ : ∃ m, k = m + 1 := ⟨k - 1, by omega⟩
 simp only [dowelref04_token.j2, tv_eta, refFault_f]
 cases b
 · rw [if_neg (by simp), if_neg (by simp)]; try rfl
 · have h1 := ownE_ge s (p + 1)
   have h2 := ownE_size s (p + 1) (by omega)
   have hb := hs
   unfold bnd at hb
   rw [if_pos (by simp), if_pos (by simp), wr1 hs (by omega), refOwn_f s hs (p + 1) k (by omega) (by omega)]
   simp only [Option.bind_some]
   unfold markE
   have e : wrap64 (wrap64 (((ownE s (p + 1) : Nat) : Int) - (p : Int)) - 1) = ((ownE s (p + 1) - (p + 1) : Nat) : Int) := by rw [wr_in (x := _ - (p : Int)) (by omega) (by omega), wr_in (by omega) (by omega)]; omega
   rw [e]
   clear e
   by_cases h0 : ownE s (p + 1) = p + 1
   · rw [if_pos (by omega), if_pos h0]; try rfl
   · rw [if_neg (by omega), if_neg h0]
     by_cases h : ownE s (p + 1) - (p + 1) > 64
     · rw [if_pos (by omega), if_pos h]; try rfl
     · rw [if_neg (by omega), if_neg h]
       by_cases h94 : bt s (p : Int) = 94
       · rw [if_pos h94, if_pos h94, if_pos (by omega), if_pos (by omega), if_pos (by omega), Int.toNat_natCast, Int.toNat_natCast]; try rfl
       · rw [if_neg h94, if_neg h94, if_pos (by omega), if_pos (by omega), if_pos (by omega), Int.toNat_natCast, Int.toNat_natCast]; try rfl
theorem token_j1 (s : ByteArray) (hs : s.size ≤ 65536) (p k : Nat) (hp : p < s.size) (hk : 2 * s.size + 30 < k) (b : Bool) (hb : b = true ↔ (bt s (p : Int) = 39 ∨ bt s (p : Int) = 34)) :
 dowelref04_token.j1 k s (p : Int) (bt s (p : Int)) b = some (if bt s (p : Int) = 39 ∨ bt s (p : Int) = 34 then litE s p (s.size + 1) [] (p + 1) else if bt s (p : Int) = 91 then classV s p else if bt s (p : Int) = 64 ∨ bt s (p : Int) = 94 then markE s p else faultV p 40) := by
 have hs' : s.size ≤ bnd := by unfold bnd; omega
 obtain ⟨k, rfl⟩ : ∃ m, k = m + 1 := ⟨k - 1, by omega⟩
 simp only [dowelref04_token.j1, tv_eta]
 by_cases hq : bt s (p : Int) = 39 ∨ bt s (p : Int) = 34
 · rw [if_pos (hb.2 hq), if_pos hq, refLiteral_f s hs' p k hp (by omega)]
 · rw [if_neg (fun h => hq (hb.1 h)), if_neg hq]
   by_cases h91 : bt s (p : Int) = 91
   · rw [if_pos h91, if_pos h91, refParse_f s hs p (by omega)]
     simp only [Option.bind_some]
     unfold classV
     by_cases h0 : (((parseI s p).2.2.2 : Nat) : Int) = 0
     · rw [if_pos h0, if_pos h0]
     · rw [if_neg h0, if_neg h0]; try rfl
   · rw [if_neg h91, if_neg h91]
     by_cases h64 : bt s (p : Int) = 64
     · rw [if_pos h64, token_j2 s hs' p k hp (by omega), if_pos rfl, if_pos (.inl h64)]
     · rw [if_neg h64, token_j2 s hs' p k hp (by omega)]
       by_cases h94 : bt s (p : Int) = 94
       · rw [if_pos (c := (bt s (p : Int) == 94) = true) (by simpa using h94), if_pos (c := bt s (p : Int) = 64 ∨ _) (.inr h94)]
       · rw [if_neg (c := (bt s (p : Int) == 94) = true) (by simpa using h94), if_neg (c := bt s (p : Int) = 64 ∨ _) (fun h => h.elim h64 h94)]
theorem token_j0 (s : ByteArray) (hs : s.size ≤ 65536) (p k : Nat) (hp : p < s.size) (hk : 2 * s.size + 40 < k) (b : Bool) (hL : ¬ letterB (bt s (p : Int)) = true) (hb : b = true → bt s (p : Int) = 60) :
 dowelref04_token.j0 k s (p : Int) (bt s (p : Int)) b = some (if 0 ≤ signE (bt s (p : Int)) then plainV (signE (bt s (p : Int))) p ((p + 1 : Nat) : Int) else if b = true then plainV 2 p ((p + 2 : Nat) : Int) else if bt s (p : Int) = 123 then countE s p
  else if bt s (p : Int) = 39 ∨ bt s (p : Int) = 34 then litE s p (s.size + 1) [] (p + 1) else if bt s (p : Int) = 91 then classV s p else if bt s (p : Int) = 64 ∨ bt s (p : Int) = 94 then markE s p else faultV p 40) := by
 have hs' : s.size ≤ bnd := by unfold bnd; omega
 obtain ⟨k, rfl⟩ : ∃ m, k = m + 1 := ⟨k - 1, by omega⟩
 simp only [dowelref04_token.j0, tv_eta, refSign_f, Option.bind_some]
 cases b
 · rw [if_neg (c := false = true) (by simp), if_neg (c := false = true) (by simp)]
   by_cases hS : 0 ≤ signE (bt s (p : Int))
   · rw [if_pos hS, if_pos hS, wr1 hs' (by omega)]; try rfl
   · rw [if_neg hS, if_neg hS]
     by_cases h123 : bt s (p : Int) = 123
     · rw [if_pos h123, if_pos h123, refCount_f s hs' p k hp (by omega)]
     · rw [if_neg h123, if_neg h123]
       by_cases h39 : bt s (p : Int) = 39
       · rw [if_pos h39, token_j1 s hs p k hp (by omega) _ ⟨fun _ => .inl h39, fun _ => rfl⟩]
       · rw [if_neg h39, token_j1 s hs p k hp (by omega) _ ⟨fun h => .inr (by simpa using h), fun h => by simpa using h.resolve_left h39⟩]
 · have h60 := hb rfl
   rw [if_pos (by simp), if_neg (by rw [h60]; decide), if_pos (by simp), wr2 hs' (by omega)]; try rfl
theorem token_f (s : ByteArray) (hs : s.size ≤ 65536) (p k : Nat) (hp : p ≤ s.size) (hk : 2 * s.size + 60 < k) : dowelref04_token.f k s (p : Int) = some (tokE s p) := by
 have hs' : s.size ≤ bnd := by unfold bnd; omega
 unfold dowelref04_token.f tokE
 by_cases h : p < s.size
 · rw [if_neg (by omega), if_pos (by omega), if_pos (by omega), if_pos h, refLetter_f, wr1 hs' (by omega)]
   simp only [Option.bind_some, tv_eta, refFault_f]
   by_cases hL : letterB (bt s (p : Int)) = true
   · have hn := letter_not hL
     have h1 := nameE_ge s p
     have h2 := nameE_size s p hp
     rw [if_pos hL, if_neg (by rw [hn.1]; decide), if_pos hL, refNamed_f s hs' p k hp (by omega)]
     simp only [Option.bind_some]
     unfold wordE
     have e : wrap64 (((nameE s p : Nat) : Int) - (p : Int)) = ((nameE s p - p : Nat) : Int) := by rw [wr_in (by omega) (by omega)]; omega
     rw [e]
     clear e
     by_cases h64 : nameE s p - p > 64
     · rw [if_pos (by omega), if_pos h64]; try rfl
     · rw [if_neg (by omega), if_neg h64, if_pos (by omega), if_pos (by omega), Int.toNat_natCast, Int.toNat_natCast]; try rfl
   · rw [if_neg hL, if_neg (c := letterB _ = true) hL]
     by_cases h60 : bt s (p : Int) = 60
     · rw [if_pos h60]
       by_cases h1 : p + 1 < s.size
       · rw [if_pos (by omega), if_pos (by omega), token_j0 s hs p k h (by omega) _ hL (fun _ => h60)]
         by_cases h45 : bt s ((p + 1 : Nat) : Int) = 45
         · rw [if_pos (c := ((bt s ((p + 1 : Nat) : Int)) == 45) = true) (by simpa using h45), if_pos (c := bt s (p : Int) = 60 ∧ _) ⟨h60, h1, h45⟩]
         · rw [if_neg (c := ((bt s ((p + 1 : Nat) : Int)) == 45) = true) (by simpa using h45), if_neg (c := bt s (p : Int) = 60 ∧ _) (fun h' => h45 h'.2.2)]
       · rw [if_neg (by omega), token_j0 s hs p k h (by omega) _ hL (by simp), if_neg (c := false = true) (by simp), if_neg (c := bt s (p : Int) = 60 ∧ _) (fun h' => h1 h'.2.1)]
     · rw [if_neg h60, token_j0 s hs p k h (by omega) _ hL (by simp), if_neg (c := false = true) (by simp), if_neg (c := bt s (p : Int) = 60 ∧ _) (fun h' => h60 h'.1)]
 · obtain rfl : p = s.size := by omega
   rw [if_pos (by omega), if_neg h]; try rfl
end Go.Proofs.Ytldjdcdoegjmoaa.P
set_option linter.unusedVariables false
set_option linter.unusedSimpArgs false
namespace Go.Proofs.Ytldjdcdoegjmoaa.P
open Go.RowKit Go.Proofs.YtldjdcdoegjmoaaW.PrintWords Go.Proofs.YtldjdcdoegjmoaaW.PrintLast
def notNL (c : Int) : Bool := !(c == 10)
def spaceB (c : Int) : Bool := c == 32 || c == 9 || c == 13 || c == 10
def blankE (s : ByteArray) : Nat → Nat → Nat
 | 0, p => p
 | d + 1, p => if p < s.size then (if spaceB (bt s (p : Int)) = true then blankE s d (p + 1) else if bt s (p : Int) = 35 then blankE s d (runE notNL s p) else p) else p
theorem blankE_le (s : ByteArray) : ∀ (d p : Nat), p ≤ s.size → p ≤ blankE s d p ∧ blankE s d p ≤ s.size
 | 0, p, h => ⟨Nat.le_refl _, h⟩
 | d + 1, p, h => by
   rw [blankE]
   split
   · split
     · have := blankE_le s d (p + 1) (by omega); omega
     · split
       · have h1 := runE_ge notNL s p
         have h2 := runE_size notNL s p h
         have := blankE_le s d (runE notNL s p) h2; omega
       · omega
   · omega
theorem index_list (c : UInt8) : ∀ l : List UInt8, (Lib.indexByte l c = -1 ∧ ∀ x ∈ l, x ≠ c) ∨ ∃ i : Nat, Lib.indexByte l c = (i : Int) ∧ i < l.length ∧ l[i]? = some c ∧ ∀ j, j < i → l[j]? ≠ some c
 | [] => .inl ⟨rfl, by simp⟩
 | b :: l => by
   unfold Lib.indexByte
   by_cases h : b = c
   · subst h
     exact .inr ⟨0, by simp, by simp, by simp, by omega⟩
   · have hb : (b == c) = false := by simpa using h
     rw [hb]
     rcases index_list c l with ⟨h1, h2⟩ | ⟨i, h1, h2, h3, h4⟩
     · left
       rw [h1]
       refine ⟨by simp, ?_⟩
       intro x hx
       rcases List.mem_cons.1 hx with rfl | hx
       · exact h
       · exact h2 x hx
     · right
       refine ⟨i + 1, ?_, by simpa using h2, by simpa using h3, ?_⟩
       · rw [h1]
         have : ((i : Int) == -1) = false := by rw [beq_eq_false_iff_ne]; omega
         rw [this]
         simp
       · intro j hj
         cases j with
         | zero => simpa using h
         | succ j => simpa using h4 j (by omega)
theorem byte_of_list (s : ByteArray) (i : Nat) (h : i < s.size) : s.data.toList[i]? = some (s[i]'h) := by
 rw [List.getElem?_eq_getElem (by rw [Array.length_toList]; exact h)]
 rfl
theorem runE_to (P : Int → Bool) (s : ByteArray) : ∀ (n p : Nat), p + n ≤ s.size → (∀ j, j < n → P (bt s ((p + j : Nat) : Int)) = true) → (¬ p + n < s.size ∨ ¬ P (bt s ((p + n : Nat) : Int)) = true) → runE P s p = p + n
 | 0, p, h, _, h2 => by
   rcases h2 with h2 | h2
   · exact runE_end (by simpa using h2)
   · exact runE_no (by simpa using h2)
 | n + 1, p, h, h1, h2 => by
   rw [runE_yes (by omega) (by simpa using h1 0 (by omega)), runE_to P s n (p + 1) (by omega) (fun j hj => by have := h1 (j + 1) (by omega); rwa [show p + (j + 1) = p + 1 + j by omega] at this) (by rwa [show p + (n + 1) = p + 1 + n by omega] at h2)]
   omega
theorem index_f (s : ByteArray) (p : Nat) (hp : p ≤ s.size) : ∃ r : Int, strings_IndexByte.f (s.extract p s.size) 10 = some r ∧ ((r < 0 ∧ runE notNL s p = s.size) ∨ ∃ i : Nat, r = (i : Int) ∧ runE notNL s p = p + i ∧ p + i < s.size) := by
 unfold strings_IndexByte.f
 refine ⟨_, rfl, ?_⟩
 have hz := size_cut s p
 have hc : (10 : Int).toNat.toUInt8 = 10 := rfl
 rw [hc]
 have hn : ∀ i, i < s.size - p → (notNL (bt s ((p + i : Nat) : Int)) = true ↔ (s.extract p s.size).data.toList[i]? ≠ some 10) := by
  intro i hi
  rw [byte_of_list _ i (by omega), ← bt_cut s p i, bt_lt (by omega)]
  unfold notNL
  constructor
  · intro h e
    injection e with e
    rw [e] at h
    simp at h
  · intro h
    simp only [Bool.not_eq_true', beq_eq_false_iff_ne]
    intro e
    exact h (by rw [show (s.extract p s.size)[i]'(by omega) = 10 from UInt8.toNat_inj.1 (Int.ofNat.inj e)])
 rcases index_list 10 (s.extract p s.size).data.toList with ⟨h1, h2⟩ | ⟨i, h1, h2, h3, h4⟩
 · left
   rw [h1]
   refine ⟨by decide, ?_⟩
   have := runE_to notNL s (s.size - p) p (by omega) (fun j hj => (hn j hj).2 (fun e => h2 10 (List.mem_of_getElem? e) rfl)) (.inl (by omega))
   omega
 · right
   rw [Array.length_toList] at h2
   have h2' : i < s.size - p := by rw [← hz]; exact h2
   refine ⟨i, h1, ?_, by omega⟩
   exact runE_to notNL s i p (by omega) (fun j hj => (hn j (by omega)).2 (h4 j hj)) (.inr (fun h => (hn i h2').1 h h3))
theorem space_not {c : Int} (h : spaceB c = true) : c = 32 ∨ c = 9 ∨ c = 13 ∨ c = 10 := by unfold spaceB at h; simpa [or_assoc] using h
theorem blanks_j1 (s : ByteArray) (p k : Nat) (b : Bool) (h35 : ¬ bt s (p : Int) = 35) : lexis_blanks.j1 (k + 1) s (p : Int) (bt s (p : Int)) b = if b = true then lexis_blanks.l0 k s (wrap64 ((p : Int) + 1)) else some (p : Int) := by
 simp only [lexis_blanks.j1]
 cases b
 · rw [if_neg (by simp), if_neg h35, if_neg (by simp)]
 · rw [if_pos rfl, if_pos rfl]
theorem blanks_l (s : ByteArray) (hs : s.size ≤ bnd) : ∀ (d k p : Nat), s.size < p + d → 2 * d + 4 < k → p ≤ s.size → lexis_blanks.l0 k s (p : Int) = some ((blankE s d p : Nat) : Int) := by
 intro d
 induction d with
 | zero => intro k p hd hk hp; omega
 | succ d ih =>
   intro k p hd hk hp
   obtain ⟨k, rfl⟩ : ∃ m, k = m + 1 + 1 := ⟨k - 2, by omega⟩
   have hb := hs
   unfold bnd at hb
   simp only [lexis_blanks.l0, blankE]
   by_cases hlt : p < s.size
   · rw [if_pos (by omega), if_pos (by omega), if_pos hlt]
     by_cases h35 : bt s (p : Int) = 35
     · have hsp : ¬ spaceB (bt s (p : Int)) = true := by rw [h35]; decide
       rw [if_neg (by omega), if_neg (by omega), if_neg (by omega), if_neg hsp, if_pos h35]
       simp only [lexis_blanks.j1]
       rw [if_neg (by rw [h35]; decide), if_pos h35, if_pos (by omega), if_pos (by omega), Int.toNat_natCast]
       obtain ⟨r, h1, h2⟩ := index_f s p hp
       rw [h1]
       simp only [Option.bind_some]
       rcases h2 with ⟨h2, h3⟩ | ⟨i, rfl, h3, h4⟩
       · rw [if_pos h2, h3]
         have := blankE_le s d s.size (Nat.le_refl _)
         rw [show blankE s d s.size = s.size by omega]
       · rw [if_neg (by omega), h3, show wrap64 ((p : Int) + (i : Int)) = ((p + i : Nat) : Int) by rw [wr_in (by omega) (by omega)]; omega]
         by_cases hi : i = 0
         · subst hi
           have h5 := runE_yes hlt (P := notNL) (by rw [h35]; rfl)
           have := runE_ge notNL s (p + 1)
           omega
         · exact ih k (p + i) (by omega) (by omega) (by omega)
     · by_cases hsp : spaceB (bt s (p : Int)) = true
       · rw [if_pos hsp]
         have hnext : lexis_blanks.l0 k s (wrap64 ((p : Int) + 1)) = some ((blankE s d (p + 1) : Nat) : Int) := by rw [wr1 hs (by omega)]; exact ih k (p + 1) (by omega) (by omega) (by omega)
         rw [blanks_j1 s p k _ h35, blanks_j1 s p k _ h35, blanks_j1 s p k _ h35, blanks_j1 s p k _ h35, hnext]
         rcases space_not hsp with h | h | h | h <;> rw [h] <;> rfl
       · rw [if_neg hsp, if_neg h35]
         have e : ¬ bt s (p : Int) = 32 ∧ ¬ bt s (p : Int) = 9 ∧ ¬ bt s (p : Int) = 13 ∧ ¬ bt s (p : Int) = 10 := by unfold spaceB at hsp; simpa [and_assoc] using hsp
         rw [if_neg e.1, if_neg e.2.1, if_neg e.2.2.1, blanks_j1 s p k _ h35, if_neg (by simpa using e.2.2.2)]
   · rw [if_neg (by omega), if_neg hlt]
theorem blanks_f (s : ByteArray) (hs : s.size ≤ bnd) (p k : Nat) (hp : p ≤ s.size) (hk : 2 * s.size + 10 < k) : lexis_blanks.f k s (p : Int) = some ((blankE s (s.size + 1) p : Nat) : Int) :=
 blanks_l s hs (s.size + 1) k p (by omega) (by omega) hp
theorem refBlanks_l1 (s : ByteArray) (hs : s.size ≤ bnd) : ∀ (n k p : Nat), p ≤ s.size → s.size - p ≤ n → n < k → ∃ k', k = k' + (runE notNL s p - p) + 1 ∧ dowelref04_blanks.l1 k s (p : Int) = dowelref04_blanks.l0 k' s ((runE notNL s p : Nat) : Int) := by
 intro n
 induction n with
 | zero =>
   intro k p hp hn hk
   obtain ⟨k, rfl⟩ : ∃ m, k = m + 1 := ⟨k - 1, by omega⟩
   rw [runE_end (by omega)]
   refine ⟨k, by omega, ?_⟩
   simp only [dowelref04_blanks.l1]
   rw [if_neg (by omega)]
 | succ n ih =>
   intro k p hp hn hk
   obtain ⟨k, rfl⟩ : ∃ m, k = m + 1 := ⟨k - 1, by omega⟩
   by_cases hlt : p < s.size
   · by_cases h10 : bt s (p : Int) = 10
     · rw [runE_no (by rw [h10]; decide)]
       refine ⟨k, by omega, ?_⟩
       simp only [dowelref04_blanks.l1]
       rw [if_pos (by omega), if_pos (by omega), if_pos h10]
     · have hn' : notNL (bt s (p : Int)) = true := by unfold notNL; simpa using h10
       rw [runE_yes hlt hn']
       have hge := runE_ge notNL s (p + 1)
       obtain ⟨k', h1, h2⟩ := ih k (p + 1) (by omega) (by omega) (by omega)
       refine ⟨k', by omega, ?_⟩
       rw [← h2]
       simp only [dowelref04_blanks.l1]
       rw [if_pos (by omega), if_pos (by omega), if_neg h10, wr1 hs (by omega)]
   · rw [runE_end hlt]
     refine ⟨k, by omega, ?_⟩
     simp only [dowelref04_blanks.l1]
     rw [if_neg (by omega)]
theorem refBlanks_j1 (s : ByteArray) (p k : Nat) (b : Bool) (h35 : ¬ bt s (p : Int) = 35) : dowelref04_blanks.j1 (k + 1) s (p : Int) (bt s (p : Int)) b = if b = true then dowelref04_blanks.l0 k s (wrap64 ((p : Int) + 1)) else some (p : Int) := by
 simp only [dowelref04_blanks.j1]
 cases b
 · rw [if_neg (by simp), if_neg h35, if_neg (by simp)]
 · rw [if_pos rfl, if_pos rfl]
theorem refBlanks_l (s : ByteArray) (hs : s.size ≤ bnd) : ∀ (d k p : Nat), s.size < p + d → 4 * (s.size - p) + 8 < k → p ≤ s.size → dowelref04_blanks.l0 k s (p : Int) = some ((blankE s d p : Nat) : Int) := by
 intro d
 induction d with
 | zero => intro k p hd hk hp; omega
 | succ d ih =>
   intro k p hd hk hp
   obtain ⟨k, rfl⟩ : ∃ m, k = m + 1 + 1 := ⟨k - 2, by omega⟩
   have hb := hs
   unfold bnd at hb
   simp only [dowelref04_blanks.l0, blankE]
   by_cases hlt : p < s.size
   · rw [if_pos (by omega), if_pos (by omega), if_pos hlt]
     by_cases h35 : bt s (p : Int) = 35
     · have hsp : ¬ spaceB (bt s (p : Int)) = true := by rw [h35]; decide
       rw [if_neg (by omega), if_neg (by omega), if_neg (by omega), if_neg hsp, if_pos h35]
       simp only [dowelref04_blanks.j1]
       rw [if_neg (by rw [h35]; decide), if_pos h35]
       have h5 := runE_yes hlt (P := notNL) (by rw [h35]; rfl)
       have h6 := runE_ge notNL s (p + 1)
       have h7 := runE_size notNL s p hp
       obtain ⟨k', h1, h2⟩ := refBlanks_l1 s hs (s.size - p) k p hp (Nat.le_refl _) (by omega)
       rw [h2]
       have h8 := runE_le notNL s _ p (Nat.le_refl _)
       exact ih k' _ (by omega) (by omega) h7
     · by_cases hsp : spaceB (bt s (p : Int)) = true
       · rw [if_pos hsp]
         have hnext : dowelref04_blanks.l0 k s (wrap64 ((p : Int) + 1)) = some ((blankE s d (p + 1) : Nat) : Int) := by rw [wr1 hs (by omega)]; exact ih k (p + 1) (by omega) (by omega) (by omega)
         rw [refBlanks_j1 s p k _ h35, refBlanks_j1 s p k _ h35, refBlanks_j1 s p k _ h35, refBlanks_j1 s p k _ h35, hnext]
         rcases space_not hsp with h | h | h | h <;> rw [h] <;> rfl
       · rw [if_neg hsp, if_neg h35]
         have e : ¬ bt s (p : Int) = 32 ∧ ¬ bt s (p : Int) = 9 ∧ ¬ bt s (p : Int) = 13 ∧ ¬ bt s (p : Int) = 10 := by unfold spaceB at hsp; simpa [and_assoc] using hsp
         rw [if_neg e.1, if_neg e.2.1, if_neg e.2.2.1, refBlanks_j1 s p k _ h35, if_neg (by simpa using e.2.2.2)]
   · rw [if_neg (by omega), if_neg hlt]
theorem refBlanks_f (s : ByteArray) (hs : s.size ≤ bnd) (p k : Nat) (hp : p ≤ s.size) (hk : 4 * s.size + 10 < k) : dowelref04_blanks.f k s (p : Int) = some ((blankE s (s.size + 1) p : Nat) : Int) :=
 refBlanks_l s hs (s.size + 1) k p (by omega) (by omega) hp
def nextE (s : ByteArray) (a : Int) : TV :=
 if s.size > 65536 then faultV 0 1 else if a < 0 ∨ (s.size : Int) < a then faultV 0 5 else tokE s (blankE s (s.size + 1) a.toNat)
theorem Next_f (s : ByteArray) (hs : s.size ≤ bnd) (a : Int) (k : Nat) (hk : 4 * s.size + 100 < k) : lexis_Next.f k s a = some (nextE s a) := by
 obtain ⟨k, rfl⟩ : ∃ m, k = m + 1 := ⟨k - 1, by omega⟩
 unfold lexis_Next.f nextE
 by_cases h1 : s.size > 65536
 · rw [if_pos (by omega), if_pos h1]; rfl
 · rw [if_neg (by omega), if_neg h1]
   simp only [lexis_Next.j0, tv_eta]
   by_cases h2 : a < 0
   · rw [if_pos h2, if_pos trivial, if_pos (.inl h2)]; rfl
   · rw [if_neg h2]
     by_cases h3 : (s.size : Int) < a
     · rw [if_pos (decide_eq_true h3), if_pos (.inr h3)]; rfl
     · obtain ⟨p, rfl⟩ : ∃ p : Nat, a = (p : Int) := ⟨a.toNat, by omega⟩
       have hb := blankE_le s (s.size + 1) p (by omega)
       rw [if_neg (by simpa using h3), if_neg (fun h => h.elim h2 h3), blanks_f s hs p k (by omega) (by omega)]
       simp only [Option.bind_some]
       rw [read_f s (by omega) _ k hb.2 (by omega), Int.toNat_natCast]
theorem refNext_f (s : ByteArray) (hs : s.size ≤ bnd) (a : Int) (k : Nat) (hk : 4 * s.size + 100 < k) : dowelref04_Next.f k s a = some (nextE s a) := by
 obtain ⟨k, rfl⟩ : ∃ m, k = m + 1 := ⟨k - 1, by omega⟩
 unfold dowelref04_Next.f nextE
 simp only [tv_eta, refFault_f]
 by_cases h1 : s.size > 65536
 · rw [if_pos (by omega), if_pos h1]
 · rw [if_neg (by omega), if_neg h1]
   simp only [dowelref04_Next.j0, tv_eta, refFault_f]
   by_cases h2 : a < 0
   · rw [if_pos h2, if_pos trivial, if_pos (.inl h2)]
   · rw [if_neg h2]
     by_cases h3 : (s.size : Int) < a
     · rw [if_pos (decide_eq_true h3), if_pos (.inr h3)]
     · obtain ⟨p, rfl⟩ : ∃ p : Nat, a = (p : Int) := ⟨a.toNat, by omega⟩
       have hb := blankE_le s (s.size + 1) p (by omega)
       rw [if_neg (by simpa using h3), if_neg (fun h => h.elim h2 h3), refBlanks_f s hs p k (by omega) (by omega)]
       simp only [Option.bind_some]
       rw [token_f s (by omega) _ k hb.2 (by omega), Int.toNat_natCast]
end Go.Proofs.Ytldjdcdoegjmoaa.P
set_option linter.unusedVariables false
namespace Go.Proofs.Ytldjdcdoegjmoaa
theorem escF_agr {s t : ByteArray} {p n : Nat} (hn : n ≤ s.size) (hm : n ≤ t.size) (hb : ∀ i, i < n → bat t i = bat s i) (h0 : (escF s p).2.2 = 0) (hq : (escF s p).2.1 ≤ n) : escF t p = escF s p := by
 unfold escF at h0 hq ⊢
 by_cases h1 : p + 1 < s.size
 · rw [if_pos h1] at h0 hq ⊢
   by_cases a1 : bat s (p + 1) = 116
   · rw [if_pos a1] at hq ⊢
     dsimp only at hq
     rw [if_pos (by omega), hb (p + 1) (by omega), if_pos a1]
   · rw [if_neg a1] at h0 hq ⊢
     by_cases a2 : bat s (p + 1) = 110
     · rw [if_pos a2] at hq ⊢
       dsimp only at hq
       rw [if_pos (by omega), hb (p + 1) (by omega), if_neg a1, if_pos a2]
     · rw [if_neg a2] at h0 hq ⊢
       by_cases a3 : bat s (p + 1) = 114
       · rw [if_pos a3] at hq ⊢
         dsimp only at hq
         rw [if_pos (by omega), hb (p + 1) (by omega), if_neg a1, if_neg a2, if_pos a3]
       · rw [if_neg a3] at h0 hq ⊢
         by_cases a4 : bat s (p + 1) = 92 ∨ bat s (p + 1) = 93 ∨ bat s (p + 1) = 45 ∨ bat s (p + 1) = 94 ∨ bat s (p + 1) = 39 ∨ bat s (p + 1) = 34
         · rw [if_pos a4] at hq ⊢
           dsimp only at hq
           rw [if_pos (by omega), hb (p + 1) (by omega), if_neg a1, if_neg a2, if_neg a3, if_pos a4]
         · rw [if_neg a4] at h0 hq ⊢
           by_cases a5 : bat s (p + 1) = 120 ∧ p + 3 < s.size ∧ 0 ≤ hexv (bat s (p + 2)) ∧ 0 ≤ hexv (bat s (p + 3))
           · rw [if_pos a5] at hq ⊢
             dsimp only at hq
             rw [if_pos (by omega), hb (p + 1) (by omega), hb (p + 2) (by omega), hb (p + 3) (by omega), if_neg a1, if_neg a2, if_neg a3, if_neg a4, if_pos ⟨a5.1, by omega, a5.2.2⟩]
           · rw [if_neg a5] at h0
             cases h0
 · rw [if_neg h1] at h0
   cases h0
theorem byteF_strict {s : ByteArray} {p : Nat} (h0 : (byteF s p).2.2 = 0) : p < (byteF s p).2.1 ∧ p < s.size := by
 unfold byteF at h0 ⊢
 by_cases h1 : p < s.size
 · rw [if_pos h1] at h0 ⊢
   unfold sayF at h0 ⊢
   by_cases h2 : bat s p = 92
   · rw [if_pos h2] at h0 ⊢
     refine ⟨?_, h1⟩
     unfold escF at h0 ⊢
     repeat' (split at h0)
     all_goals first | (cases h0; done) | (simp only [*, if_true, if_false, and_self]; repeat' (split)) | skip
     all_goals first | (dsimp only; omega) | (simp_all)
   · rw [if_neg h2] at h0 ⊢
     by_cases h3 : barred (bat s p)
     · rw [if_pos h3] at h0; cases h0
     · rw [if_neg h3]; exact ⟨by dsimp only; omega, h1⟩
 · rw [if_neg h1] at h0
   cases h0
theorem byteF_agr {s t : ByteArray} {p n : Nat} (hn : n ≤ s.size) (hm : n ≤ t.size) (hb : ∀ i, i < n → bat t i = bat s i) (h0 : (byteF s p).2.2 = 0) (hq : (byteF s p).2.1 ≤ n) : byteF t p = byteF s p := by
 have hs := byteF_strict h0
 have e := hb p (by omega)
 have hpt : p < t.size := by omega
 unfold byteF at h0 hq ⊢
 rw [if_pos hs.2] at h0 hq ⊢
 rw [if_pos hpt]
 unfold sayF at h0 hq ⊢
 rw [e]
 by_cases h2 : bat s p = 92
 · rw [if_pos h2] at h0 hq ⊢
   rw [if_pos h2]
   exact escF_agr hn hm hb h0 hq
 · rw [if_neg h2, if_neg h2]
theorem itemF_no {s : ByteArray} {b p : Nat} (h : (itemF s b p).2.2.2.2 = 0) : (byteF s p).2.2 = 0 := by
 by_cases h0 : (byteF s p).2.2 = 0
 · exact h0
 · unfold itemF at h
   rw [if_neg h0] at h
   exact h
theorem itemF_strict {s : ByteArray} {b p : Nat} (h : (itemF s b p).2.2.2.2 = 0) : p < (itemF s b p).2.2.1 ∧ (byteF s p).2.1 ≤ (itemF s b p).2.2.1 := by
 have h0 := itemF_no h
 have h1 := byteF_strict h0
 unfold itemF
 rw [if_pos h0]
 by_cases h2 : (byteF s p).2.1 < s.size ∧ bat s (byteF s p).2.1 = 45
 · rw [if_pos h2]
   have h3 := byteF_next s ((byteF s p).2.1 + 1) (by omega)
   split <;> (dsimp only; omega)
 · rw [if_neg h2]
   dsimp only
   omega
theorem itemF_agr {s t : ByteArray} {b p n : Nat} (hn : n ≤ s.size) (hm : n ≤ t.size) (hb : ∀ i, i < n → bat t i = bat s i) (h : (itemF s b p).2.2.2.2 = 0) (hq : (itemF s b p).2.2.1 < n) : itemF t b p = itemF s b p := by
 have h0 := itemF_no h
 have hs := itemF_strict h
 have e := byteF_agr hn hm hb h0 (by omega)
 have eb := hb (byteF s p).2.1 (by omega)
 have hqn : (byteF s p).2.1 < n := by omega
 unfold itemF at h hq ⊢
 rw [e]
 rw [if_pos h0] at h hq ⊢
 rw [if_pos h0]
 by_cases h2 : (byteF s p).2.1 < s.size ∧ bat s (byteF s p).2.1 = 45
 · rw [if_pos h2] at h hq ⊢
   rw [if_pos (show (byteF s p).2.1 < t.size ∧ bat t (byteF s p).2.1 = 45 from ⟨by omega, by rw [eb]; exact h2.2⟩)]
   by_cases h3 : (byteF s ((byteF s p).2.1 + 1)).2.2 = 0 ∧ (byteF s ((byteF s p).2.1 + 1)).1 < (byteF s p).1
   · rw [if_pos h3] at h; cases h
   · rw [if_neg h3] at h hq
     dsimp only at h hq
     rw [byteF_agr hn hm hb h (by omega)]
 · rw [if_neg h2]
   rw [if_neg (show ¬ ((byteF s p).2.1 < t.size ∧ bat t (byteF s p).2.1 = 45) from fun h3 => h2 ⟨by omega, by rw [← eb]; exact h3.2⟩)]
theorem itemsF_good {s t : ByteArray} {b n : Nat} (hn : n ≤ s.size) (hm : n ≤ t.size) (hb : ∀ i, i < n → bat t i = bat s i) :
 ∀ (k p : Nat) (l L : List (Nat × Nat)) (m pl : Nat), itemsF s b k p l = (L, m, pl, 0) → p ≤ s.size → p < m ∧ m ≤ s.size ∧ pl = 0 ∧ (m ≤ n → ∀ k', m - p ≤ k' → itemsF t b k' p l = (L, m, pl, 0))
 | 0, p, l, L, m, pl, h, hp => by simp [itemsF] at h
 | k + 1, p, l, L, m, pl, h, hp => by
   rw [itemsF] at h
   by_cases h1 : p < s.size ∧ bat s p = 93
   · rw [if_pos h1] at h
     simp only [Prod.mk.injEq] at h
     obtain ⟨rfl, rfl, rfl, -⟩ := h
     refine ⟨by omega, by omega, rfl, fun hmn k' hk => ?_⟩
     obtain ⟨j, rfl⟩ : ∃ j, k' = j + 1 := ⟨k' - 1, by omega⟩
     rw [itemsF, if_pos ⟨by omega, by rw [hb p (by omega)]; exact h1.2⟩]
   · rw [if_neg h1] at h
     by_cases h2 : (itemF s b p).2.2.2.2 = 0
     · rw [if_pos h2] at h
       have hs := itemF_strict h2
       have hx := itemF_next s b p hp
       have ih := itemsF_good hn hm hb k _ _ L m pl h hx.2
       refine ⟨by omega, ih.2.1, ih.2.2.1, fun hmn k' hk => ?_⟩
       obtain ⟨j, rfl⟩ : ∃ j, k' = j + 1 := ⟨k' - 1, by omega⟩
       have ea := itemF_agr hn hm hb h2 (by omega)
       rw [itemsF, if_neg (fun h3 => h1 ⟨by omega, by rw [← hb p (by omega)]; exact h3.2⟩), ea, if_pos h2]
       exact ih.2.2.2 hmn j (by omega)
     · rw [if_neg h2] at h
       simp only [Prod.mk.injEq] at h
       exact absurd h.2.2.2 h2
end Go.Proofs.Ytldjdcdoegjmoaa
set_option linter.unusedVariables false
set_option linter.unusedSimpArgs false
namespace Go.Proofs.Ytldjdcdoegjmoaa.P
open Go.RowKit Go.Proofs.YtldjdcdoegjmoaaW.PrintWords Go.Proofs.YtldjdcdoegjmoaaW.PrintLast
def kindOf (t : TV) : Int := t.1
def endOf (t : TV) : Int := t.2.2.1
def codeOf (t : TV) : Int := t.2.2.2.2.2.2.2.2.2.2.2.2
theorem code_fault (p c : Int) : codeOf (faultV p c) = c := rfl
def Ends (s : ByteArray) (p : Nat) (t : TV) : Prop := codeOf t = 0 → kindOf t ≠ 0 → ∃ e : Nat, endOf t = (e : Int) ∧ p < e ∧ e ≤ s.size
theorem ends_fault {s : ByteArray} {p : Nat} {a c : Int} (h : c ≠ 0) : Ends s p (faultV a c) := fun h0 _ => absurd h0 h
theorem ends_mk {s : ByteArray} {p e : Nat} {t : TV} (h : endOf t = (e : Int)) (h1 : p < e) (h2 : e ≤ s.size) : Ends s p t := fun _ _ => ⟨e, h, h1, h2⟩
theorem ends_word {s : ByteArray} {p : Nat} (hp : p < s.size) (hl : letterB (bt s (p : Int)) = true) : Ends s p (wordE s p) := by
 unfold wordE
 split
 · exact ends_fault (by decide)
 · have h1 := ownE_on s p ⟨hp, hl⟩
   have h2 : ownE s p ≤ nameE s p := by
    unfold nameE
    rw [if_neg (by omega)]
    exact Nat.le_trans (colE_ge s _) (numE_ge s _)
   exact ends_mk rfl (by omega) (nameE_size s p (by omega))
theorem ends_mark {s : ByteArray} {p : Nat} (hp : p < s.size) : Ends s p (markE s p) := by
 unfold markE
 split
 · exact ends_fault (by decide)
 · split
   · exact ends_fault (by decide)
   · have := ownE_ge s (p + 1)
     exact ends_mk rfl (by omega) (ownE_size s (p + 1) (by omega))
theorem numbE_le {s : ByteArray} {p n e : Nat} (h : numbE s p = some (n, e)) : p < e ∧ (p ≤ s.size → e ≤ s.size) := by
 unfold numbE at h
 split at h
 · next q =>
   simp only [Option.some.injEq, Prod.mk.injEq] at h
   obtain ⟨-, rfl⟩ := h
   exact ⟨q.1, fun hp => runE_size _ _ _ hp⟩
 · cases h
theorem ends_count {s : ByteArray} {p : Nat} (hp : p < s.size) : Ends s p (countE s p) := by
 unfold countE
 split
 · exact ends_fault (by decide)
 · next low k h =>
   have h1 := numbE_le h
   have h2 := h1.2 (by omega)
   split
   · next q =>
     split
     · next q2 => exact ends_mk rfl (by omega) (by omega)
     · split
       · exact ends_fault (by decide)
       · next high m h3 =>
         have h4 := numbE_le h3
         have h5 := h4.2 (by omega)
         split
         · exact ends_fault (by decide)
         · split
           · next q3 => exact ends_mk rfl (by omega) (by omega)
           · exact ends_fault (by decide)
   · split
     · next q => exact ends_mk rfl (by omega) (by omega)
     · exact ends_fault (by decide)
theorem ends_litEnd {s : ByteArray} {p q : Nat} {acc : List Int} (h : p < q) (hq : q < s.size) : Ends s p (litEnd s p acc q) := by
 unfold litEnd
 split
 · next h1 => exact ends_mk rfl (by omega) (by omega)
 · exact ends_mk rfl (by omega) (by omega)
theorem ends_lit {s : ByteArray} {p : Nat} : ∀ (d : Nat) (acc : List Int) (q : Nat), p < q → Ends s p (litE s p d acc q)
 | 0, acc, q, h => ends_fault (by decide)
 | d + 1, acc, q, h => by
   rw [litE]
   split
   · next h1 =>
     split
     · exact ends_litEnd h h1.1
     · split
       · split
         · exact ends_fault (by decide)
         · exact ends_lit d _ _ (by omega)
       · exact ends_lit d _ _ (by omega)
   · exact ends_fault (by decide)
theorem parseF_end {s : ByteArray} {p : Nat} (hp : p < s.size) (h : (parseF s p).2.2.2 = 0) : p < (parseF s p).2.1 ∧ (parseF s p).2.1 ≤ s.size := by
 unfold parseF at h ⊢
 split at h
 · next h1 =>
   rw [if_pos h1]
   dsimp only at h ⊢
   have key : ∀ q, p + 1 ≤ q → q ≤ s.size → (itemsF s p (s.size + 1) q []).2.2.2 = 0 → p < (itemsF s p (s.size + 1) q []).2.1 ∧ (itemsF s p (s.size + 1) q []).2.1 ≤ s.size := fun q hq1 hq2 h0 => by
    obtain ⟨L, m, pl, c, hr⟩ : ∃ L m pl c, itemsF s p (s.size + 1) q [] = (L, m, pl, c) := ⟨_, _, _, _, rfl⟩
    rw [hr] at h0 ⊢
    obtain rfl : c = 0 := h0
    have := itemsF_good (s := s) (t := s) (n := s.size) (Nat.le_refl _) (Nat.le_refl _) (fun _ _ => rfl) _ _ _ _ _ _ hr hq2
    exact ⟨by dsimp only; omega, this.2.1⟩
   by_cases ho : p + 1 < s.size ∧ bat s (p + 1) = 94
   · simp only [if_pos ho] at h ⊢
     by_cases h2 : (itemsF s p (s.size + 1) (p + 2) []).2.2.2 = 0
     · rw [if_pos h2]; exact key _ (by omega) (by omega) h2
     · rw [if_neg h2] at h; exact absurd h h2
   · simp only [if_neg ho] at h ⊢
     by_cases h2 : (itemsF s p (s.size + 1) (p + 1) []).2.2.2 = 0
     · rw [if_pos h2]; exact key _ (by omega) (by omega) h2
     · rw [if_neg h2] at h; exact absurd h h2
 · cases h
theorem ends_class {s : ByteArray} {p : Nat} (hp : p < s.size) : Ends s p (classV s p) := by
 unfold classV
 have e : parseI s (p : Int) = parseF s p := by unfold parseI; rw [if_neg (by omega), Int.toNat_natCast]
 rw [e]
 split
 · next h =>
   have := parseF_end hp (by omega)
   exact ends_mk rfl this.1 this.2
 · next h => exact ends_fault h
theorem ends_tok {s : ByteArray} {p : Nat} : Ends s p (tokE s p) := by
 unfold tokE
 split
 · next hp =>
   split
   · exact ends_mk rfl (by omega) (by omega)
   · split
     · next h => exact ends_word hp h
     · split
       · exact ends_mk rfl (by omega) (by omega)
       · split
         · exact ends_count hp
         · split
           · exact ends_lit _ _ _ (by omega)
           · split
             · exact ends_class hp
             · split
               · exact ends_mark hp
               · exact ends_fault (by decide)
 · exact fun _ h => absurd rfl h
theorem ends_next {s : ByteArray} {p : Nat} (hp : p ≤ s.size) : Ends s p (nextE s (p : Int)) := by
 unfold nextE
 split
 · exact ends_fault (by decide)
 · rw [if_neg (by omega), Int.toNat_natCast]
   have hb := blankE_le s (s.size + 1) p hp
   intro h0 h1
   obtain ⟨e, h2, h3, h4⟩ := ends_tok h0 h1
   exact ⟨e, h2, by omega, h4⟩
def pairsE (s : ByteArray) : Nat → Nat → List TV
 | 0, _ => []
 | d + 1, p => if codeOf (nextE s (p : Int)) = 0 ∧ kindOf (nextE s (p : Int)) ≠ 0 then nextE s (p : Int) :: pairsE s d (endOf (nextE s (p : Int))).toNat else [nextE s (p : Int)]
theorem pairsE_fuel (s : ByteArray) : ∀ (d d' p : Nat), p ≤ s.size → s.size < p + d → s.size < p + d' → pairsE s d p = pairsE s d' p
 | 0, d', p, h, h1, h2 => by omega
 | d + 1, 0, p, h, h1, h2 => by omega
 | d + 1, d' + 1, p, h, h1, h2 => by
   rw [pairsE, pairsE]
   split
   · next q =>
     obtain ⟨e, h3, h4, h5⟩ := ends_next h q.1 q.2
     rw [h3, Int.toNat_natCast, pairsE_fuel s d d' e h5 (by omega) (by omega)]
   · rfl
def allE (s : ByteArray) (p : Nat) : List TV := pairsE s (s.size + 1) p
theorem allE_on {s : ByteArray} {p : Nat} (hp : p ≤ s.size) (h0 : codeOf (nextE s (p : Int)) = 0) (h1 : kindOf (nextE s (p : Int)) ≠ 0) : ∃ e : Nat, endOf (nextE s (p : Int)) = (e : Int) ∧ p < e ∧ e ≤ s.size ∧ allE s p = nextE s (p : Int) :: allE s e := by
 obtain ⟨e, h3, h4, h5⟩ := ends_next hp h0 h1
 refine ⟨e, h3, h4, h5, ?_⟩
 unfold allE
 rw [pairsE, if_pos ⟨h0, h1⟩, h3, Int.toNat_natCast, pairsE_fuel s s.size (s.size + 1) e h5 (by omega) (by omega)]
theorem allE_off {s : ByteArray} {p : Nat} (h : ¬ (codeOf (nextE s (p : Int)) = 0 ∧ kindOf (nextE s (p : Int)) ≠ 0)) : allE s p = [nextE s (p : Int)] := by
 unfold allE
 rw [pairsE, if_neg h]
theorem pairsE_len (s : ByteArray) : ∀ (d p : Nat), (pairsE s d p).length ≤ d
 | 0, p => by simp [pairsE]
 | d + 1, p => by
   rw [pairsE]
   split
   · have := pairsE_len s d (endOf (nextE s (p : Int))).toNat
     simp only [List.length_cons]; omega
   · simp
theorem allE_len (s : ByteArray) : (allE s 0).length ≤ 65537 := by
 by_cases h : s.size > 65536
 · rw [allE_off]
   · simp
   · unfold nextE
     rw [if_pos h]
     exact fun q => absurd q.1 (by decide)
 · have := pairsE_len s (s.size + 1) 0
   unfold allE
   omega
theorem allE_ne (s : ByteArray) : allE s 0 ≠ [] := by
 by_cases h : codeOf (nextE s ((0 : Nat) : Int)) = 0 ∧ kindOf (nextE s ((0 : Nat) : Int)) ≠ 0
 · obtain ⟨e, _, _, _, h4⟩ := allE_on (Nat.zero_le _) h.1 h.2
   rw [h4]; simp
 · rw [allE_off h]; simp
end Go.Proofs.Ytldjdcdoegjmoaa.P

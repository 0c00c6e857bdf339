import Derived.Test.YtldjdcdoegjmoaaDoorY1
import Derived.Test.YtldjdcdoegjmoaaDoorY25
import Derived.Test.YtldjdcdoegjmoaaDoorY26
set_option linter.unusedVariables false
set_option linter.unusedSimpArgs false
namespace Go.Proofs.YtldjdcdoegjmoaaDoor.Pure
open Go.RowKit Go.Proofs.YtldjdcdoegjmoaaDoor.P Go.Proofs.YtldjdcdoegjmoaaDoorW.PrintWords Go.Proofs.YtldjdcdoegjmoaaDoorW.PrintLast
theorem digits_all : ∀ n : Fin 256, dowelref04_Digits.f 5 (n.val : Int) = some ⟨(Lib.itoa (n.val : Int)).toArray⟩ := by decide +kernel
theorem itoa_small : ∀ n : Fin 256, (Lib.itoa (n.val : Int)).length ≤ 3 := by decide +kernel
theorem digits_f {n : Int} (h0 : 0 ≤ n) (h1 : n ≤ 255) {k : Nat} (hk : 5 ≤ k) : dowelref04_Digits.f k n = some ⟨(Lib.itoa n).toArray⟩ := by
  have h := digits_all ⟨n.toNat, by omega⟩
  have e : ((n.toNat : Nat) : Int) = n := by omega
  simp only [e] at h
  exact at_rounds (dowelref04_Digits.mono _) hk h
theorem itoa_len {n : Int} (h0 : 0 ≤ n) (h1 : n ≤ 255) : (⟨(Lib.itoa n).toArray⟩ : ByteArray).size ≤ 3 := by
  have h := itoa_small ⟨n.toNat, by omega⟩
  have e : ((n.toNat : Nat) : Int) = n := by omega
  simp only [e] at h
  simpa [ByteArray.size] using h
theorem itoa_f {n : Int} (h0 : 0 ≤ n) (h1 : n ≤ 255) : strconv_Itoa.f n = some ⟨(Lib.itoa n).toArray⟩ := by
  unfold strconv_Itoa.f
  rw [if_pos ⟨h0, h1⟩]
theorem qS_size {s : ByteArray} (h : s.size ≤ 65536) : (Q.qS s).size ≤ 262146 := by
  have := Q.qL_len s s.size
  show (Q.qL s s.size ++ [39]).toArray.size ≤ _
  simp only [List.size_toArray, List.length_append, List.length_cons, List.length_nil]
  omega
def T2 : ByteArray := ⟨#[44]⟩
def T3 : ByteArray := ⟨#[125]⟩
theorem ba_assoc (a b c : ByteArray) : (a ++ b) ++ c = a ++ (b ++ c) := by
  apply ByteArray.ext
  simp
theorem text9 (k : Nat) (hk : 30 ≤ k) (a1 a2 : Int) (a3 : ByteArray) (a4 : Bool) (a5 a6 a7 a8 a9 a10 : Int) (h0 : 0 ≤ a9) (h1 : a9 ≤ 255) (h2 : a10 = -1 ∨ (a9 ≤ a10 ∧ a10 ≤ 255)) :
    ∃ t, lexis_text.f k 9 a1 a2 a3 a4 a5 a6 a7 a8 a9 a10 = some t ∧ dowelref04_spelled.f k 9 a1 a2 a3 a4 a5 a6 a7 a8 a9 a10 = some t := by
  have s1 := itoa_len h0 h1
  have f1 := itoa_f h0 h1
  have d1 := digits_f h0 h1 (k := k) (by omega)
  generalize (⟨(Lib.itoa a9).toArray⟩ : ByteArray) = D at s1 f1 d1
  have e1 : (⟨#[123]⟩ : ByteArray).size = 1 := rfl
  have e2 : (⟨#[44]⟩ : ByteArray).size = 1 := rfl
  have e3 : (⟨#[125]⟩ : ByteArray).size = 1 := rfl
  have e4 : (⟨#[44, 125]⟩ : ByteArray).size = 2 := rfl
  have e5 : (⟨#[44]⟩ : ByteArray) ++ (⟨#[125]⟩ : ByteArray) = ⟨#[44, 125]⟩ := by decide
  unfold lexis_text.f dowelref04_spelled.f
  simp only [show ¬ (9 : Int) = 1 by decide, show ¬ (9 : Int) = 16 by decide, show ¬ (9 : Int) = 17 by decide, show ¬ (9 : Int) = 0 by decide, show ¬ (9 : Int) = 2 by decide, show ¬ (9 : Int) = 15 by decide, show ¬ (9 : Int) = 14 by decide, if_true, if_false, f1, d1, Option.bind_some, ByteArray.size_append, e1, e2, e3, e4]
  have k1 : 1 + D.size ≤ 9223372036854775807 := by omega
  have k2 : 1 + D.size + 1 ≤ 9223372036854775807 := by omega
  have k3 : 1 + D.size + 2 ≤ 9223372036854775807 := by omega
  have k4 : 1 + D.size + 1 + 1 ≤ 9223372036854775807 := by omega
  by_cases c1 : a10 = -1
  · subst c1
    have n1 : ¬ (-1 : Int) = a9 := by omega
    simp only [k1, k2, k3, k4, n1, if_true, if_false]
    refine ⟨_, rfl, ?_⟩
    rw [ba_assoc _ (⟨#[44]⟩ : ByteArray), e5]
  · have h3 : a9 ≤ a10 ∧ a10 ≤ 255 := h2.resolve_left c1
    by_cases c2 : a10 = a9
    · have n2 : ¬ a10 > a9 := by omega
      simp only [k1, k2, k3, k4, c1, n2, if_false]
      rw [if_pos c2]
      exact ⟨_, rfl, rfl⟩
    · have s2 := itoa_len (n := a10) (by omega) h3.2
      have f2 := itoa_f (n := a10) (by omega) h3.2
      have d2 := digits_f (n := a10) (by omega) h3.2 (k := k) (by omega)
      generalize (⟨(Lib.itoa a10).toArray⟩ : ByteArray) = E at s2 f2 d2
      have k5 : 1 + E.size ≤ 9223372036854775807 := by omega
      have k6 : 1 + D.size + (1 + E.size) ≤ 9223372036854775807 := by omega
      have k7 : 1 + D.size + (1 + E.size) + 1 ≤ 9223372036854775807 := by omega
      have k8 : 1 + D.size + 1 + E.size ≤ 9223372036854775807 := by omega
      have k9 : 1 + D.size + 1 + E.size + 1 ≤ 9223372036854775807 := by omega
      have n2 : a10 > a9 := by omega
      simp only [f2, d2, Option.bind_some, ByteArray.size_append, e1, e2, e3, k1, k2, k3, k4, k5, k6, k7, k8, k9, c1, c2, n2, if_true, if_false]
      refine ⟨_, rfl, ?_⟩
      simp only [ba_assoc]
theorem plain_all (k : Nat) (hk : 30 ≤ k) (a0 a1 a2 : Int) (a3 : ByteArray) (a4 : Bool) (a5 a6 a7 a8 a9 a10 : Int) (h : a0 = 3 ∨ a0 = 4 ∨ a0 = 5 ∨ a0 = 6 ∨ a0 = 7 ∨ a0 = 8 ∨ a0 = 10 ∨ a0 = 11 ∨ a0 = 12 ∨ a0 = 13) :
    ∃ t, lexis_text.f k a0 a1 a2 a3 a4 a5 a6 a7 a8 a9 a10 = some t ∧ dowelref04_spelled.f k a0 a1 a2 a3 a4 a5 a6 a7 a8 a9 a10 = some t := by
  rcases h with h | h | h | h | h | h | h | h | h | h <;> subst h <;>
    exact ⟨_, rfl, at_rounds (dowelref04_spelled.mono _ _ _ _ _ _ _ _ _ _ _) hk (by kernel_rfl)⟩
theorem text_eq (k : Nat) (hk : 400 ≤ k) (a0 a1 a2 : Int) (a3 : ByteArray) (a4 : Bool) (c : Cls) (hc : c.ok) (a9 a10 : Int) (hs : a3.size ≤ 65536) (hF : Facts a0 a9 a10) :
    ∃ t, lexis_text.f k a0 a1 a2 a3 a4 c.c0 c.c1 c.c2 c.c3 a9 a10 = some t ∧ dowelref04_spelled.f k a0 a1 a2 a3 a4 c.c0 c.c1 c.c2 c.c3 a9 a10 = some t := by
  obtain ⟨h0, h1, h2⟩ := hF
  by_cases q : a0 = 3 ∨ a0 = 4 ∨ a0 = 5 ∨ a0 = 6 ∨ a0 = 7 ∨ a0 = 8 ∨ a0 = 10 ∨ a0 = 11 ∨ a0 = 12 ∨ a0 = 13
  · exact plain_all k (by omega) a0 a1 a2 a3 a4 _ _ _ _ a9 a10 q
  by_cases c9 : a0 = 9
  · subst c9
    have := h2 rfl
    exact text9 k (by omega) a1 a2 a3 a4 _ _ _ _ a9 a10 this.1 this.2.1 this.2.2
  have q2 : a0 = 0 ∨ a0 = 1 ∨ a0 = 2 ∨ a0 = 14 ∨ a0 = 15 ∨ a0 = 16 ∨ a0 = 17 := by omega
  rcases q2 with q2 | q2 | q2 | q2 | q2 | q2 | q2 <;> subst q2
  · exact ⟨_, rfl, rfl⟩
  · exact ⟨_, rfl, rfl⟩
  · exact ⟨_, rfl, rfl⟩
  · have hq := qS_size hs
    unfold lexis_text.f dowelref04_spelled.f lexis_quoted.f dowelref04_Quoted.f
    simp only [show ¬ (14 : Int) = 1 by decide, show ¬ (14 : Int) = 16 by decide, show ¬ (14 : Int) = 17 by decide, show ¬ (14 : Int) = 0 by decide, show ¬ (14 : Int) = 2 by decide, show ¬ (14 : Int) = 15 by decide, show ¬ (14 : Int) = 9 by decide, if_true, if_false, if_pos hs, Option.bind_some]
    have hk1 : (Q.qS a3).size + 1 ≤ 9223372036854775807 := by omega
    simp only [hk1, if_true]
    cases a4 <;> exact ⟨_, rfl, rfl⟩
  · unfold lexis_text.f dowelref04_spelled.f
    simp only [show ¬ (15 : Int) = 1 by decide, show ¬ (15 : Int) = 16 by decide, show ¬ (15 : Int) = 17 by decide, show ¬ (15 : Int) = 0 by decide, show ¬ (15 : Int) = 2 by decide, show ¬ (15 : Int) = 14 by decide, show ¬ (15 : Int) = 9 by decide, if_true, if_false, text_f hc (k := k) (by omega), textRef_f hc (k := k) (by omega), Option.bind_some]
    exact ⟨_, rfl, rfl⟩
  · unfold lexis_text.f dowelref04_spelled.f
    simp only [show ¬ (16 : Int) = 1 by decide, show ¬ (16 : Int) = 0 by decide, show ¬ (16 : Int) = 2 by decide, if_true, if_false]
    rw [if_pos (by omega)]
    exact ⟨_, rfl, rfl⟩
  · unfold lexis_text.f dowelref04_spelled.f
    simp only [show ¬ (17 : Int) = 1 by decide, show ¬ (17 : Int) = 16 by decide, show ¬ (17 : Int) = 0 by decide, show ¬ (17 : Int) = 2 by decide, if_true, if_false]
    rw [if_pos (by omega)]
    exact ⟨_, rfl, rfl⟩
end Go.Proofs.YtldjdcdoegjmoaaDoor.Pure
namespace Go.Proofs.YtldjdcdoegjmoaaDoor.P
open Go.RowKit Go.Proofs.YtldjdcdoegjmoaaDoorW.PrintWords Go.Proofs.YtldjdcdoegjmoaaDoorW.PrintLast Go.Proofs.YtldjdcdoegjmoaaDoorW.PrintMore
set_option linter.unusedVariables false
set_option linter.unusedSimpArgs false
theorem info26 : (Tryd.prog.info? 26).map (fun i => (i.zero, i.size, i.bytes)) = some (some (.agg #[(.int .i64 0), (.int .i64 0), (.int .i64 0), (.string ⟨#[]⟩), (.bool false), (.int .u64 0), (.int .u64 0), (.int .u64 0), (.int .u64 0), (.int .i64 0), (.int .i64 0)]), 11, 96) := by kernel_rfl
structure S26 where
  f0 : Int
  f1 : Int
  f2 : Int
  f3 : ByteArray
  f4 : Bool
  f5 : S24
  f6 : Int
  f7 : Int
def z26 : S26 := ⟨(0 : Int), (0 : Int), (0 : Int), (⟨#[]⟩ : ByteArray), false, z24, (0 : Int), (0 : Int)⟩
def k26 : Kd S26 := Kd.iso (Kd.pair (Kd.int .i64) (Kd.pair (Kd.int .i64) (Kd.pair (Kd.int .i64) (Kd.pair Kd.string (Kd.pair Kd.bool (Kd.pair k24 (Kd.pair (Kd.int .i64) (Kd.int .i64)))))))) (fun x : S26 => (x.f0, x.f1, x.f2, x.f3, x.f4, x.f5, x.f6, x.f7))
theorem k26_open {w : World} {x : S26} {cs : List Value} (h : k26.K w x cs) : cs = [.int .i64 x.f0, .int .i64 x.f1, .int .i64 x.f2, .string x.f3, .bool x.f4, .int .u64 x.f5.f0, .int .u64 x.f5.f1, .int .u64 x.f5.f2, .int .u64 x.f5.f3, .int .i64 x.f6, .int .i64 x.f7] := by
  obtain ⟨_, _, rfl, rfl, ⟨_, _, rfl, rfl, ⟨_, _, rfl, rfl, ⟨_, _, rfl, rfl, ⟨_, _, rfl, rfl, ⟨_, _, rfl, s5, ⟨_, _, rfl, rfl, rfl⟩⟩⟩⟩⟩⟩⟩ := h
  obtain rfl := k24_open s5
  exact rfl
theorem k26_mk (w : World) (x : S26)  : k26.K w x [.int .i64 x.f0, .int .i64 x.f1, .int .i64 x.f2, .string x.f3, .bool x.f4, .int .u64 x.f5.f0, .int .u64 x.f5.f1, .int .u64 x.f5.f2, .int .u64 x.f5.f3, .int .i64 x.f6, .int .i64 x.f7] := ⟨[.int .i64 x.f0], [.int .i64 x.f1, .int .i64 x.f2, .string x.f3, .bool x.f4, .int .u64 x.f5.f0, .int .u64 x.f5.f1, .int .u64 x.f5.f2, .int .u64 x.f5.f3, .int .i64 x.f6, .int .i64 x.f7], rfl, rfl, ⟨[.int .i64 x.f1], [.int .i64 x.f2, .string x.f3, .bool x.f4, .int .u64 x.f5.f0, .int .u64 x.f5.f1, .int .u64 x.f5.f2, .int .u64 x.f5.f3, .int .i64 x.f6, .int .i64 x.f7], rfl, rfl, ⟨[.int .i64 x.f2], [.string x.f3, .bool x.f4, .int .u64 x.f5.f0, .int .u64 x.f5.f1, .int .u64 x.f5.f2, .int .u64 x.f5.f3, .int .i64 x.f6, .int .i64 x.f7], rfl, rfl, ⟨[.string x.f3], [.bool x.f4, .int .u64 x.f5.f0, .int .u64 x.f5.f1, .int .u64 x.f5.f2, .int .u64 x.f5.f3, .int .i64 x.f6, .int .i64 x.f7], rfl, rfl, ⟨[.bool x.f4], [.int .u64 x.f5.f0, .int .u64 x.f5.f1, .int .u64 x.f5.f2, .int .u64 x.f5.f3, .int .i64 x.f6, .int .i64 x.f7], rfl, rfl, ⟨[.int .u64 x.f5.f0, .int .u64 x.f5.f1, .int .u64 x.f5.f2, .int .u64 x.f5.f3], [.int .i64 x.f6, .int .i64 x.f7], rfl, (k24_mk w x.f5 ), ⟨[.int .i64 x.f6], [.int .i64 x.f7], rfl, rfl, rfl⟩⟩⟩⟩⟩⟩⟩
theorem k26_mkM (w : World) (base : Nat) (ok : Nat → Prop) (x : S26)  : k26.M w base ok x [.int .i64 x.f0, .int .i64 x.f1, .int .i64 x.f2, .string x.f3, .bool x.f4, .int .u64 x.f5.f0, .int .u64 x.f5.f1, .int .u64 x.f5.f2, .int .u64 x.f5.f3, .int .i64 x.f6, .int .i64 x.f7] := ⟨[.int .i64 x.f0], [.int .i64 x.f1, .int .i64 x.f2, .string x.f3, .bool x.f4, .int .u64 x.f5.f0, .int .u64 x.f5.f1, .int .u64 x.f5.f2, .int .u64 x.f5.f3, .int .i64 x.f6, .int .i64 x.f7], rfl, rfl, ⟨[.int .i64 x.f1], [.int .i64 x.f2, .string x.f3, .bool x.f4, .int .u64 x.f5.f0, .int .u64 x.f5.f1, .int .u64 x.f5.f2, .int .u64 x.f5.f3, .int .i64 x.f6, .int .i64 x.f7], rfl, rfl, ⟨[.int .i64 x.f2], [.string x.f3, .bool x.f4, .int .u64 x.f5.f0, .int .u64 x.f5.f1, .int .u64 x.f5.f2, .int .u64 x.f5.f3, .int .i64 x.f6, .int .i64 x.f7], rfl, rfl, ⟨[.string x.f3], [.bool x.f4, .int .u64 x.f5.f0, .int .u64 x.f5.f1, .int .u64 x.f5.f2, .int .u64 x.f5.f3, .int .i64 x.f6, .int .i64 x.f7], rfl, rfl, ⟨[.bool x.f4], [.int .u64 x.f5.f0, .int .u64 x.f5.f1, .int .u64 x.f5.f2, .int .u64 x.f5.f3, .int .i64 x.f6, .int .i64 x.f7], rfl, rfl, ⟨[.int .u64 x.f5.f0, .int .u64 x.f5.f1, .int .u64 x.f5.f2, .int .u64 x.f5.f3], [.int .i64 x.f6, .int .i64 x.f7], rfl, (k24_mkM w base ok x.f5 ), ⟨[.int .i64 x.f6], [.int .i64 x.f7], rfl, rfl, rfl⟩⟩⟩⟩⟩⟩⟩
def rd_T26 (xs : List S26) (i : Int) : S26 := xs.getD i.toNat z26
theorem at_T26 {w : World} {A : Option Addr} {n : Nat} {xs : List S26} (h : Kd.C k26 w A n xs) (i : Int) (h0 : 0 ≤ i) (h1 : i < n) : ∃ ad , A = some ad ∧ w.cell? (ad.add (i.toNat * 11)) = some (.int .i64 (rd_T26 xs i).f0) ∧ w.cell? ⟨(ad.add (i.toNat * 11)).block, (ad.add (i.toNat * 11)).off + 1, none⟩ = some (.int .i64 (rd_T26 xs i).f1) ∧ w.cell? ⟨(ad.add (i.toNat * 11)).block, (ad.add (i.toNat * 11)).off + 2, none⟩ = some (.int .i64 (rd_T26 xs i).f2) ∧ w.cell? ⟨(ad.add (i.toNat * 11)).block, (ad.add (i.toNat * 11)).off + 3, none⟩ = some (.string (rd_T26 xs i).f3) ∧ w.cell? ⟨(ad.add (i.toNat * 11)).block, (ad.add (i.toNat * 11)).off + 4, none⟩ = some (.bool (rd_T26 xs i).f4) ∧ w.cell? ⟨(ad.add (i.toNat * 11)).block, (ad.add (i.toNat * 11)).off + 5, none⟩ = some (.int .u64 (rd_T26 xs i).f5.f0) ∧ w.cell? ⟨(ad.add (i.toNat * 11)).block, (ad.add (i.toNat * 11)).off + 6, none⟩ = some (.int .u64 (rd_T26 xs i).f5.f1) ∧ w.cell? ⟨(ad.add (i.toNat * 11)).block, (ad.add (i.toNat * 11)).off + 7, none⟩ = some (.int .u64 (rd_T26 xs i).f5.f2) ∧ w.cell? ⟨(ad.add (i.toNat * 11)).block, (ad.add (i.toNat * 11)).off + 8, none⟩ = some (.int .u64 (rd_T26 xs i).f5.f3) ∧ w.cell? ⟨(ad.add (i.toNat * 11)).block, (ad.add (i.toNat * 11)).off + 9, none⟩ = some (.int .i64 (rd_T26 xs i).f6) ∧ w.cell? ⟨(ad.add (i.toNat * 11)).block, (ad.add (i.toNat * 11)).off + 10, none⟩ = some (.int .i64 (rd_T26 xs i).f7) := by
  obtain ⟨ad, c, e, _, hK, hc0⟩ := Kd.C_get h z26 i h0 h1
  have hc : ∀ j u, c[j]? = some u → w.cell? (ad.add (i.toNat * 11 + j)) = some u := hc0
  obtain rfl := k26_open hK
  exact ⟨ad, e, hc 0 _ rfl, by rw [← add_field _ _ 1 (by omega)]; exact hc 1 _ rfl, by rw [← add_field _ _ 2 (by omega)]; exact hc 2 _ rfl, by rw [← add_field _ _ 3 (by omega)]; exact hc 3 _ rfl, by rw [← add_field _ _ 4 (by omega)]; exact hc 4 _ rfl, by rw [← add_field _ _ 5 (by omega)]; exact hc 5 _ rfl, by rw [← add_field _ _ 6 (by omega)]; exact hc 6 _ rfl, by rw [← add_field _ _ 7 (by omega)]; exact hc 7 _ rfl, by rw [← add_field _ _ 8 (by omega)]; exact hc 8 _ rfl, by rw [← add_field _ _ 9 (by omega)]; exact hc 9 _ rfl, by rw [← add_field _ _ 10 (by omega)]; exact hc 10 _ rfl⟩
end Go.Proofs.YtldjdcdoegjmoaaDoor.P

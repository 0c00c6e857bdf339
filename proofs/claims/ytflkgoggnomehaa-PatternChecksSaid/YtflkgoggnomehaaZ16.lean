import Derived.Test.YtflkgoggnomehaaZ14
import Derived.Test.YtflkgoggnomehaaZ15
set_option linter.unusedVariables false
set_option linter.unusedSimpArgs false
namespace Go.Proofs.Ytflkgoggnomehaa.Pt
open Go.RowKit Go.Proofs.Ytflkgoggnomehaa Go.Proofs.YtflkgoggnomehaaW.PrintWords Go.Proofs.YtflkgoggnomehaaW.PrintLast Go.Proofs.YtflkgoggnomehaaW.PrintMore Go.Proofs.Ytflkgoggnomehaa.P
theorem spelled22_all : ∀ b : Fin 256, dowelref22_spelled.f 14 (b.val : Int) = some (Sp.spellF (b.val : Int)) := by decide +kernel
theorem spelled22_f {k b : Nat} (hk : 14 ≤ k) (hb : b < 256) : dowelref22_spelled.f k (b : Int) = some (Sp.spellF (b : Int)) := at_rounds (dowelref22_spelled.mono _) hk (spelled22_all ⟨b, hb⟩)
def okC (c : Cl) : Prop := okB c.f0 c.f1 c.f2 c.f3 = true
theorem bytes_lt (a : Cls) : ∀ b ∈ a.bytes, b < 256 := by
  have hb : a.bytes = (upto a 256).map fun x => x.val := Ct.below_upto a 256 (Nat.le_refl _)
  rw [hb]
  intro b h
  obtain ⟨x, _, rfl⟩ := List.mem_map.1 h
  exact x.isLt
theorem atom_f {c : Cl} (h : okC c) {k : Nat} (hk : 300 ≤ k) : dowelref22_atom.f k c.f0 c.f1 c.f2 c.f3 = some (clsT c) := by
  unfold okC at h
  have ha := cI_ok h
  have hT := textRef_f ha hk
  have e0 : dowelref03_Bytes.f c.f0 c.f1 c.f2 c.f3 = some (nl (cI c.f0 c.f1 c.f2 c.f3).bytes) := by unfold dowelref03_Bytes.f; rw [if_pos h]; rfl
  have ht : dowelref03_Text.f k c.f0 c.f1 c.f2 c.f3 = some (tb (textC (cI c.f0 c.f1 c.f2 c.f3))) := by
    have e := okB_iff.1 h
    rw [← hT]
    unfold cI
    dsimp only
    rw [Int.toNat_of_nonneg e.1.1, Int.toNat_of_nonneg e.2.1.1, Int.toNat_of_nonneg e.2.2.1.1, Int.toNat_of_nonneg e.2.2.2.1]
  unfold dowelref22_atom.f clsT
  rw [e0, Option.bind_some, nl_len]
  generalize cI c.f0 c.f1 c.f2 c.f3 = a at ha ht ⊢
  by_cases h1 : a.bytes.length = 1
  · rw [if_pos (by omega), if_pos (by omega)]
    obtain ⟨b, hb⟩ : ∃ b, a.bytes = [b] := List.length_eq_one_iff.1 h1
    have hlt := bytes_lt a b (by rw [hb]; exact List.mem_singleton_self b)
    unfold Ct.classText
    rw [hb]
    show (dowelref22_spelled.f k (rd [(b : Int)] 0)).bind _ = _
    rw [show rd [(b : Int)] 0 = (b : Int) from rfl, spelled22_f (by omega) hlt]
    rfl
  · rw [if_neg (by omega), Ct.classText_all h1]
    by_cases h2 : a.bytes.length = 256
    · rw [if_pos (by omega), if_pos h2]
    · rw [if_neg (by omega), if_neg h2, ht]
      rfl
theorem rngT_len (r : Nat × Nat) : (rngT r).length ≤ 9 := by
  have h1 := spell_len r.1
  have h2 := spell_len r.2
  unfold rngT
  repeat' split
  all_goals (simp only [List.length_append, List.length_cons, List.length_nil]; omega)
theorem textR_len : ∀ L : List (Nat × Nat), (textR L).length ≤ 9 * L.length
  | [] => by simp [textR]
  | r :: L => by
    have h1 := rngT_len r
    have h2 := textR_len L
    unfold textR at h2 ⊢
    rw [List.flatMap_cons, List.length_append, List.length_cons]
    omega
theorem clsT_size (c : Cl) : (clsT c).size ≤ 3000 := by
  unfold clsT Ct.classText
  generalize cI c.f0 c.f1 c.f2 c.f3 = a
  split
  · next b hb =>
    have hlt := bytes_lt a b (by rw [hb]; exact List.mem_singleton_self b)
    have : ∀ b : Fin 256, decide ((Sp.spellF (b.val : Int)).size ≤ 3000) = true := by decide +kernel
    exact of_decide_eq_true (this ⟨b, hlt⟩)
  · split
    · decide
    · rw [tb_size]
      have h1 := textR_len (rangesL a.not)
      have h2 := textR_len (rangesL a)
      have h3 := ranges_len a
      have h4 := ranges_len a.not
      unfold textC
      split <;> (simp only [List.length_append, List.length_cons, List.length_nil]; omega)
end Go.Proofs.Ytflkgoggnomehaa.Pt

/- The last pair of a text. -/
import Derived.Test.YtldjdcdoegjmoaaZ25
namespace Go.Proofs.Ytldjdcdoegjmoaa.P
open Go.RowKit
theorem pairsE_last (s : ByteArray) : ∀ (d p : Nat) (pre : List TV) (t : TV), pre ++ [t] <+: pairsE s d p → codeOf t ≠ 0 → pairsE s d p = pre ++ [t]
 | 0, p, pre, t, h, hc => by rw [pairsE] at h; have := h.length_le; simp at this
 | d + 1, p, pre, t, h, hc => by
   rw [pairsE] at h ⊢
   split at h
   · next q =>
     rw [if_pos q]
     cases pre with
     | nil =>
       have := List.cons_prefix_cons.1 h
       rw [this.1] at hc
       exact absurd q.1 hc
     | cons a pre =>
       have h2 := List.cons_prefix_cons.1 h
       rw [pairsE_last s d _ pre t h2.2 hc, ← h2.1]; rfl
   · next q =>
     rw [if_neg q]
     cases pre with
     | nil =>
       have := List.cons_prefix_cons.1 h
       rw [this.1]; rfl
     | cons a pre =>
       have := h.length_le
       simp at this
theorem allE_last {s : ByteArray} {pre : List TV} {t : TV} (h : pre ++ [t] <+: allE s 0) (hc : codeOf t ≠ 0) : allE s 0 = pre ++ [t] := pairsE_last s _ _ pre t h hc
end Go.Proofs.Ytldjdcdoegjmoaa.P

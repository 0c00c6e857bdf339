/- LexisKnows, the pure side: both tell the same of any text. No condition. -/
import Derived.Test.YtldjdcdoegjmoaaLx2
import Derived.KernelRfl
namespace Go.Proofs.Ytldjdcdoegjmoaa.Pure
open Go.RowKit Go.Proofs.Ytldjdcdoegjmoaa.P Go.Proofs.YtldjdcdoegjmoaaW.PrintWords Go.Proofs.YtldjdcdoegjmoaaW.PrintLast
theorem LexisKnows : dowellaw04_LexisKnows.Pure := by
  intro s hs
  refine ⟨s.size + 30, ?_⟩
  have h1 : lexis_Name.f (s.size + 30) ⟨#[97, 58, 58, 98, 126, 49, 50]⟩ = some true := at_rounds (lexis_Name.mono _) (k := 20) (by omega) (by kernel_rfl)
  have h2 : lexis_Name.f (s.size + 30) ⟨#[97, 126, 48]⟩ = some false := at_rounds (lexis_Name.mono _) (k := 20) (by omega) (by kernel_rfl)
  unfold dowellaw04_LexisKnows.f
  rw [Name_f s hs _ (by omega), refName_f s hs _ (by omega), h1, h2]
  simp
end Go.Proofs.Ytldjdcdoegjmoaa.Pure

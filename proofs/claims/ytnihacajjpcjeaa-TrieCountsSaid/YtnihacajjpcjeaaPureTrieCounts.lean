/- TrieCounts: what is left of the law, about numbers and lists alone. -/
import Derived.Test.YtnihacajjpcjeaaPMay
import Derived.Test.YtnihacajjpcjeaaOk
import Derived.Test.YtnihacajjpcjeaaPx0
import Derived.Test.YtnihacajjpcjeaaPx3
namespace Go.Proofs.Ytnihacajjpcjeaa.Pure
open Go.RowKit Go.Proofs.Ytnihacajjpcjeaa.P Go.Proofs.YtnihacajjpcjeaaW.PrintWords Go.Proofs.YtnihacajjpcjeaaW.PrintLast Go.Proofs.YtnihacajjpcjeaaW.PrintMore
set_option linter.unusedVariables false

theorem TrieCounts (x0 : List (S61)) (ok_0 : (okL 40 (ok61)) x0) : ∃ k, Go.Proofs.Ytnihacajjpcjeaa.P.whirligiglaw06_TrieCounts.f k x0 = some true := by
  have h : whirligiglaw06_TrieCounts.f 0 x0 = some true := by
    unfold whirligiglaw06_TrieCounts.f
    refine if_pos ?_
    simp only [Bool.and_eq_true, List.all_eq_true, decide_eq_true_eq]
    exact fun x hx => okI_u32 (ok_0.2 x hx).2.2.1.1
  exact ⟨0, h⟩
end Go.Proofs.Ytnihacajjpcjeaa.Pure

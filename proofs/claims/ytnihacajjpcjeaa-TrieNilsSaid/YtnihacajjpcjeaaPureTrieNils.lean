/- TrieNils: what is left of the law, about numbers and lists alone. -/
import Derived.Test.YtnihacajjpcjeaaPMay
import Derived.Test.YtnihacajjpcjeaaOk
import Derived.Test.YtnihacajjpcjeaaPx0
import Derived.Test.YtnihacajjpcjeaaPx8
namespace Go.Proofs.Ytnihacajjpcjeaa.Pure
open Go.RowKit Go.Proofs.Ytnihacajjpcjeaa.P Go.Proofs.YtnihacajjpcjeaaW.PrintWords Go.Proofs.YtnihacajjpcjeaaW.PrintLast Go.Proofs.YtnihacajjpcjeaaW.PrintMore
set_option linter.unusedVariables false

theorem TrieNils (x0 : S61) (ok_0 : (ok61) x0) : ∃ k, Go.Proofs.Ytnihacajjpcjeaa.P.whirligiglaw06_TrieNils.f k x0.f0 x0.f1 x0.f2.f0 x0.f2.f1 x0.f3 = some true := by
  have ha : isA x0.f2.f0 := okI_u32 ok_0.2.2.1.1
  refine Evt.ex (?_ : Evt _ true)
  unfold whirligiglaw06_TrieNils.f
  exact Evt.ite_pos ⟨ha.1, by have := ha.2; omega⟩ (Evt.bindc (may_is _ _ ha) (Evt.bind (refMay_ev _ _ ha) (Evt.ite_pos rfl (Evt.pure _))))
end Go.Proofs.Ytnihacajjpcjeaa.Pure

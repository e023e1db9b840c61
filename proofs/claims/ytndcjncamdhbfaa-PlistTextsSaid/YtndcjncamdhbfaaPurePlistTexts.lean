/- PlistTexts: what is left of the law, about numbers and lists alone. -/
import Derived.Test.YtndcjncamdhbfaaPPlist
import Derived.Test.YtndcjncamdhbfaaOk
import Derived.Test.YtndcjncamdhbfaaPx0
import Derived.Test.YtndcjncamdhbfaaPx9
namespace Go.Proofs.Ytndcjncamdhbfaa.Pure
open Go.RowKit Go.Proofs.Ytndcjncamdhbfaa.P Go.Proofs.YtndcjncamdhbfaaW.PrintWords Go.Proofs.YtndcjncamdhbfaaW.PrintLast Go.Proofs.YtndcjncamdhbfaaW.PrintMore
set_option linter.unusedVariables false

theorem PlistTexts (x0 : S26) (x1 : S26) (ok_0 : (ok26) x0) (ok_1 : (ok26) x1) : ∃ k, Go.Proofs.Ytndcjncamdhbfaa.P.whirligiglaw02_PlistTexts.f k x0.f0.f0 x0.f0.f1 x0.f1 x0.f2 x0.f3 x1.f0.f0 x1.f0.f1 x1.f1 x1.f2 x1.f3 = some true := by
  have ha : isA x0.f0.f0 := okI_u32 ok_0.1.1
  have hb : isA x1.f0.f0 := okI_u32 ok_1.1.1
  refine Evt.ex ?_
  unfold whirligiglaw02_PlistTexts.f
  refine Evt.bind (plistText_ev _ _ _ _ _ ha) (Evt.bind (plistText_ev _ _ _ _ _ hb) (Evt.bind (refText2_ev _ _ _ _ _ ha) (Evt.ite_pos rfl (Evt.bind (refText2_ev _ _ _ _ _ hb) (Evt.step ?_)))))
  simp only [whirligiglaw02_PlistTexts.j0]
  refine Evt.ite_neg (by simp) (Evt.bind (refMay2_ev _ _ _ _ _ ha) ?_)
  have hl : Evt (fun k => (whirligiglaw02_lives.f k).bind fun t => (some t)) true := Evt.bind lives2_ev (Evt.pure _)
  by_cases h1 : ruleB x0.f0.f0 x0.f0.f1 x0.f1 x0.f2 = true
  · refine Evt.ite_pos h1 (Evt.bind (refMay2_ev _ _ _ _ _ hb) ?_)
    by_cases h2 : ruleB x1.f0.f0 x1.f0.f1 x1.f1 x1.f2 = true
    · refine Evt.ite_pos h2 (Evt.ite_pos ?_ hl)
      unfold ruleTx
      rw [if_pos h1, if_pos h2, tx_list, tx_list, beq_iff_eq, Bool.eq_iff_iff, beq_iff_eq]
      constructor
      · intro e
        obtain ⟨q1, q2, q3, q4, q5⟩ := ruleL_inj ha hb h1 h2 e
        simp [q1, q2, q3, q4, q5]
      · intro e
        simp at e
        obtain ⟨⟨q1, q2⟩, q3, q4, q5⟩ := e
        rw [q1, q2, q3, q4, q5]
    · exact Evt.ite_neg h2 hl
  · exact Evt.ite_neg h1 hl
end Go.Proofs.Ytndcjncamdhbfaa.Pure

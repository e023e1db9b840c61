/- CommTexts: what is left of the law, about numbers and lists alone. -/
import Derived.Test.YtikjfonedddlpaaPL03
import Derived.Test.YtikjfonedddlpaaPCP
import Derived.Test.YtikjfonedddlpaaOk
import Derived.Test.YtikjfonedddlpaaPx0
import Derived.Test.YtikjfonedddlpaaPx10
import Derived.Test.YtikjfonedddlpaaPx13
import Derived.Test.YtikjfonedddlpaaPx8
import Derived.Test.YtikjfonedddlpaaPx9
namespace Go.Proofs.Ytikjfonedddlpaa.Pure
open Go.RowKit Go.Proofs.Ytikjfonedddlpaa Go.Proofs.Ytikjfonedddlpaa.P Go.Proofs.YtikjfonedddlpaaW.PrintWords Go.Proofs.YtikjfonedddlpaaW.PrintLast Go.Proofs.YtikjfonedddlpaaW.PrintMore
set_option linter.unusedVariables false

theorem CommTexts (x0 : S23) (x1 : ByteArray) (ok_0 : (ok23) x0) (ok_1 : (okS) x1) : ∃ k, Go.Proofs.Ytikjfonedddlpaa.P.whirligiglaw03_CommTexts.f k x0.f0 x0.f1 x1 = some true := by
  refine Evt.ex (g := fun k => Go.Proofs.Ytikjfonedddlpaa.P.whirligiglaw03_CommTexts.f k x0.f0 x0.f1 x1) ?_
  unfold whirligiglaw03_CommTexts.f
  have LL : Evt (fun k => (whirligiglaw03_lives.f k).bind fun t => some t) true := Evt.bind livesC_ev (Evt.pure _)
  by_cases h0 : (x1.size : Int) > 2000
  · exact Evt.ite_pos h0 LL
  · refine Evt.ite_neg h0 ?_
    have hx : x1 = tx x1.data.toList := by unfold tx; simp
    have hl : x1.data.toList.length ≤ 5000 := by rw [Array.length_toList]; show x1.size ≤ 5000; omega
    generalize x1.data.toList = s at *
    subst hx
    refine Evt.bind (parse_ev s hl) (Evt.bind (refParse_ev s hl) (Evt.bindc (commMay_is _ _) (Evt.bindc (refCommMay_is _ _) (Evt.ite_neg (by simp) ?_))))
    have J : Evt (fun k => whirligiglaw03_CommTexts.j0 k false x0.f0 x0.f1) true := by
      refine Evt.step ?_
      simp only [whirligiglaw03_CommTexts.j0]
      refine Evt.ite_neg (by simp) (Evt.bindc rfl (Evt.ite_neg (by decide) (Evt.bindc rfl (Evt.ite_neg (by decide) (Evt.bindc rfl (Evt.step ?_))))))
      simp only [whirligiglaw03_CommTexts.j1]
      refine Evt.ite_neg (by decide) ?_
      by_cases h : mayCB x0.f0 x0.f1 = true
      · refine Evt.bindc (commText_is _ _ h) (Evt.bind (parse_ev _ (by have := cT_len h; omega)) (Evt.bindc (commMay_is _ _) ?_))
        rw [parL_text _ _ h]
        exact Evt.ite_pos (by rw [h]; rfl) (Evt.ite_pos rfl (Evt.ite_pos (by simp) LL))
      · have hno : comm_Text.f x0.f0 x0.f1 = some (tx []) := by
          unfold comm_Text.f
          rw [commMay_is, Option.bind_some, if_neg h]; rfl
        refine Evt.bindc hno (Evt.bind (parse_ev [] (by simp)) (Evt.bindc (commMay_is _ _) ?_))
        have hp : parL [] = (0, 0, 4) := by decide
        rw [hp]
        exact Evt.ite_pos (by rw [Bool.eq_false_iff.mpr h]; rfl) (Evt.ite_neg (by decide) LL)
    by_cases h : mayCB x0.f0 x0.f1 = true
    · refine Evt.bindc (commText_is _ _ h) (Evt.bind (refCommText_ev _ _ h) (Evt.ite_pos rfl (Evt.ite_neg (by simp) ?_)))
      rw [bne_self_eq_false]; exact J
    · have hno : comm_Text.f x0.f0 x0.f1 = some (tx []) := by
        unfold comm_Text.f
        rw [commMay_is, Option.bind_some, if_neg h]; rfl
      have hno2 : Evt (fun k => whirligigref03_Text.f k x0.f0 x0.f1) (tx []) := by
        unfold whirligigref03_Text.f
        exact Evt.bindc (refCommMay_is _ _) (Evt.ite_neg h (Evt.pure _))
      refine Evt.bindc hno (Evt.bind hno2 (Evt.ite_pos rfl (Evt.ite_neg (by simp) ?_)))
      rw [bne_self_eq_false]; exact J
end Go.Proofs.Ytikjfonedddlpaa.Pure

/- AttrTexts: what is left of the law, about numbers and lists alone. -/
import Derived.Test.YtnnlbofmlfafhaaPAttrI
import Derived.Test.YtnnlbofmlfafhaaOk
import Derived.Test.YtnnlbofmlfafhaaPx0
import Derived.Test.YtnnlbofmlfafhaaPx2
import Derived.Test.YtnnlbofmlfafhaaPx3
import Derived.Test.YtnnlbofmlfafhaaPx7
import Derived.Test.YtnnlbofmlfafhaaPx8
import Derived.Test.YtnnlbofmlfafhaaPx9
namespace Go.Proofs.Ytnnlbofmlfafhaa.Pure
open Go.RowKit Go.Proofs.Ytnnlbofmlfafhaa.P Go.Proofs.YtnnlbofmlfafhaaW.PrintWords Go.Proofs.YtnnlbofmlfafhaaW.PrintLast Go.Proofs.YtnnlbofmlfafhaaW.PrintMore
set_option linter.unusedVariables false

def fewX (x : S30) : Prop := x.f3.length ≤ 100 ∧ x.f4.length ≤ 100 ∧ x.f6.length ≤ 100
theorem livesT_ev : Evt (fun k => whirligiglaw09_lives.f k) true := Evt.of_mono (K := 8) (fun k => whirligiglaw09_lives.mono k) (by decide +kernel)
def txX (x : S30) : List UInt8 := if mayX x then atX x else []
theorem textX_ev (x : S30) (h : fewX x) : Evt (fun k => attr_Text.f k x.f0 x.f1 x.f2 x.f3 x.f4 x.f5 x.f6) (tx (txX x)) := by
  unfold txX
  by_cases hm : mayX x = true
  · rw [if_pos hm]; exact attrText_ev _ _ _ _ _ _ _ hm
  · rw [if_neg hm]; exact attrText_no _ _ _ _ _ _ _ h.2.1 h.2.2 (Bool.eq_false_iff.mpr hm)
theorem refTextX_ev (x : S30) (h : fewX x) : Evt (fun k => whirligigref09_Text.f k x.f0 x.f1 x.f2 x.f3 x.f4 x.f5 x.f6) (tx (txX x)) := by
  unfold txX
  by_cases hm : mayX x = true
  · rw [if_pos hm]; exact refText_ev _ _ _ _ _ _ _ hm
  · rw [if_neg hm]; exact refText_no _ _ _ _ _ _ _ h.1 h.2.1 h.2.2 (Bool.eq_false_iff.mpr hm)
theorem mayX_ev (x : S30) (h : fewX x) : Evt (fun k => attr_May.f k x.f0 x.f1 x.f2 x.f3 x.f4 x.f5 x.f6) (mayX x) := attrMay_ev _ _ _ _ _ _ _ h.2.1 h.2.2
theorem refMayX_ev (x : S30) (h : fewX x) : Evt (fun k => whirligigref09_May.f k x.f0 x.f1 x.f2 x.f3 x.f4 x.f5 x.f6) (mayX x) := refMay_ev _ _ _ _ _ _ _ h.1 h.2.1 h.2.2
theorem sameX_ev (x y : S30) (h : fewX x) : Evt (fun k => attr_Same.f k x.f0 x.f1 x.f2 x.f3 x.f4 x.f5 x.f6 y.f0 y.f1 y.f2 y.f3 y.f4 y.f5 y.f6) (attC x y == 0) := by
  unfold attr_Same.f
  exact Evt.bind (attrCmp_ev x y (by have := h.1; omega) (by have := h.2.2; omega)) (Evt.pure _)
theorem refSameX_ev (x y : S30) (h : fewX x) : Evt (fun k => whirligigref09_Same.f k x.f0 x.f1 x.f2 x.f3 x.f4 x.f5 x.f6 y.f0 y.f1 y.f2 y.f3 y.f4 y.f5 y.f6) (attC x y == 0) := by
  unfold whirligigref09_Same.f
  exact Evt.bind (refCmp_ev x y (by have := h.1; omega) (by have := h.2.2; omega) (by have := h.2.1; omega)) (Evt.pure _)
theorem AttrTexts (x0 : S30) (x1 : S30) (ok_0 : (ok30) x0) (ok_1 : (ok30) x1) : ∃ k, Go.Proofs.Ytnnlbofmlfafhaa.P.whirligiglaw09_AttrTexts.f k x0.f0 x0.f1 x0.f2 x0.f3 x0.f4 x0.f5 x0.f6 x1.f0 x1.f1 x1.f2 x1.f3 x1.f4 x1.f5 x1.f6 = some true := by
  refine Evt.ex (g := fun k => Go.Proofs.Ytnnlbofmlfafhaa.P.whirligiglaw09_AttrTexts.f k x0.f0 x0.f1 x0.f2 x0.f3 x0.f4 x0.f5 x0.f6 x1.f0 x1.f1 x1.f2 x1.f3 x1.f4 x1.f5 x1.f6) ?_
  unfold whirligiglaw09_AttrTexts.f
  have L := livesT_ev
  have T : Evt (fun k => whirligiglaw09_AttrTexts.j0 k true x0.f0 x0.f1 x0.f2 x0.f3 x0.f4 x0.f5 x0.f6 x1.f0 x1.f1 x1.f2 x1.f3 x1.f4 x1.f5 x1.f6) true := by
    refine Evt.step ?_
    simp only [whirligiglaw09_AttrTexts.j0]
    exact Evt.ite_pos trivial (Evt.bind L (Evt.pure _))
  refine Evt.bindc (few_is x0) ?_
  by_cases h0 : x0.f3.length ≤ 100 ∧ x0.f4.length ≤ 100 ∧ x0.f6.length ≤ 100
  · refine Evt.ite_pos (decide_eq_true h0) (Evt.bindc (few_is x1) ?_)
    by_cases h1 : x1.f3.length ≤ 100 ∧ x1.f4.length ≤ 100 ∧ x1.f6.length ≤ 100
    · rw [decide_eq_true h1]
      refine Evt.step ?_
      simp only [whirligiglaw09_AttrTexts.j0]
      refine Evt.ite_neg (by simp) (Evt.bind (textX_ev x0 h0) (Evt.bind (textX_ev x1 h1) (Evt.bind (mayX_ev x0 h0) (Evt.bind (refMayX_ev x0 h0) ?_))))
      refine Evt.ite_neg (by simp) (Evt.bind (refTextX_ev x0 h0) (Evt.ite_pos rfl (Evt.bind (sameX_ev x0 x1 h0) (Evt.bind (refSameX_ev x0 x1 h0) ?_))))
      rw [show ((attC x0 x1 == 0) != (attC x0 x1 == 0)) = false by simp]
      refine Evt.step ?_
      simp only [whirligiglaw09_AttrTexts.j1]
      refine Evt.ite_neg (by simp) (Evt.bind (refMayX_ev x0 h0) ?_)
      by_cases m0 : mayX x0 = true
      · refine Evt.ite_pos m0 (Evt.bind (refMayX_ev x1 h1) ?_)
        by_cases m1 : mayX x1 = true
        · refine Evt.ite_pos m1 (Evt.bind (refSameX_ev x0 x1 h0) (Evt.ite_pos ?_ (Evt.bind L (Evt.pure _))))
          rw [tx_list, tx_list]
          unfold txX
          rw [if_pos m0, if_pos m1]
          by_cases e : x0 = x1
          · subst e
            have := (attC_zero x0 x0).2 rfl
            simp [this]
          · have e1 : atX x0 ≠ atX x1 := fun q => e (atX_inj m0 m1 q)
            have e2 : attC x0 x1 ≠ 0 := fun q => e ((attC_zero _ _).1 q)
            rw [beq_false_of_ne e1, beq_false_of_ne e2]; rfl
        · exact Evt.ite_neg m1 (Evt.bind L (Evt.pure _))
      · exact Evt.ite_neg m0 (Evt.bind L (Evt.pure _))
    · rw [decide_eq_false h1]; exact T
  · exact Evt.ite_neg (by simpa using h0) T
end Go.Proofs.Ytnnlbofmlfafhaa.Pure

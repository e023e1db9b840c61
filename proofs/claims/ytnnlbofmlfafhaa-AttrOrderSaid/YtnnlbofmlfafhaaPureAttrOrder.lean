/- AttrOrder: what is left of the law, about numbers and lists alone. -/
import Derived.Test.YtnnlbofmlfafhaaPAttrC
import Derived.Test.YtnnlbofmlfafhaaOk
import Derived.Test.YtnnlbofmlfafhaaPx0
import Derived.Test.YtnnlbofmlfafhaaPx3
import Derived.Test.YtnnlbofmlfafhaaPx6
namespace Go.Proofs.Ytnnlbofmlfafhaa.Pure
open Go.RowKit Go.Proofs.Ytnnlbofmlfafhaa.P Go.Proofs.YtnnlbofmlfafhaaW.PrintWords Go.Proofs.YtnnlbofmlfafhaaW.PrintLast Go.Proofs.YtnnlbofmlfafhaaW.PrintMore
set_option linter.unusedVariables false

theorem livesO_ev : Evt (fun k => whirligiglaw09_lives.f k) true := Evt.of_mono (K := 8) (fun k => whirligiglaw09_lives.mono k) (by decide +kernel)
theorem AttrOrder (x0 : S30) (x1 : S30) (x2 : S30) (ok_0 : (ok30) x0) (ok_1 : (ok30) x1) (ok_2 : (ok30) x2) : ∃ k, Go.Proofs.Ytnnlbofmlfafhaa.P.whirligiglaw09_AttrOrder.f k x0.f0 x0.f1 x0.f2 x0.f3 x0.f4 x0.f5 x0.f6 x1.f0 x1.f1 x1.f2 x1.f3 x1.f4 x1.f5 x1.f6 x2.f0 x2.f1 x2.f2 x2.f3 x2.f4 x2.f5 x2.f6 = some true := by
  refine Evt.ex (g := fun k => Go.Proofs.Ytnnlbofmlfafhaa.P.whirligiglaw09_AttrOrder.f k x0.f0 x0.f1 x0.f2 x0.f3 x0.f4 x0.f5 x0.f6 x1.f0 x1.f1 x1.f2 x1.f3 x1.f4 x1.f5 x1.f6 x2.f0 x2.f1 x2.f2 x2.f3 x2.f4 x2.f5 x2.f6) ?_
  unfold whirligiglaw09_AttrOrder.f
  have L := livesO_ev
  have T : Evt (fun k => whirligiglaw09_AttrOrder.j0 k true x0.f0 x0.f1 x0.f2 x0.f3 x0.f4 x0.f5 x0.f6 x1.f0 x1.f1 x1.f2 x1.f3 x1.f4 x1.f5 x1.f6 x2.f0 x2.f1 x2.f2 x2.f3 x2.f4 x2.f5 x2.f6) true := by
    refine Evt.step ?_
    simp only [whirligiglaw09_AttrOrder.j0]
    exact Evt.ite_pos trivial (Evt.bind L (Evt.pure _))
  refine Evt.bindc (few_is x0) ?_
  by_cases h0 : x0.f3.length ≤ 100 ∧ x0.f4.length ≤ 100 ∧ x0.f6.length ≤ 100
  · refine Evt.ite_pos (decide_eq_true h0) (Evt.bindc (few_is x1) ?_)
    by_cases h1 : x1.f3.length ≤ 100 ∧ x1.f4.length ≤ 100 ∧ x1.f6.length ≤ 100
    · refine Evt.ite_pos (decide_eq_true h1) (Evt.bindc (few_is x2) ?_)
      by_cases h2 : x2.f3.length ≤ 100 ∧ x2.f4.length ≤ 100 ∧ x2.f6.length ≤ 100
      · rw [decide_eq_true h2]
        refine Evt.step ?_
        simp only [whirligiglaw09_AttrOrder.j0]
        refine Evt.ite_neg (by simp) (Evt.bind (attrCmp_ev x0 x1 (by omega) (by omega)) (Evt.bind (attrCmp_ev x1 x2 (by omega) (by omega)) (Evt.bind (attrCmp_ev x0 x2 (by omega) (by omega)) (Evt.bind (refCmp_ev x0 x1 (by omega) (by omega) (by omega)) (Evt.ite_pos rfl ?_)))))
        have t1 := attC_tri x0 x1
        have t2 := attC_tri x1 x2
        have t3 := attC_tri x0 x2
        have a1 := attC_ord.1 x0 x1
        have tr := attC_ord.2 x0 x1 x2
        have z := attC_ord.zero (a := x0) (b := x1) (d := x2)
        refine Evt.bind (attrCmp_ev x1 x0 (by omega) (by omega)) (Evt.ite_pos (by rw [wrap64_in _ (by omega) (by omega)]; exact a1) (Evt.bind (attrCmp_ev x0 x0 (by omega) (by omega)) (Evt.ite_pos (attC_ord.self x0) ?_)))
        generalize attC x0 x1 = p at *
        generalize attC x1 x2 = q at *
        generalize attC x0 x2 = r at *
        have LL : Evt (fun k => (whirligiglaw09_lives.f k).bind fun t => some t) true := Evt.bind L (Evt.pure _)
        by_cases c1 : p > 0
        · exact Evt.ite_pos c1 LL
        · refine Evt.ite_neg c1 ?_
          by_cases c2 : q > 0
          · exact Evt.ite_pos c2 LL
          · refine Evt.ite_neg c2 ?_
            have c3 := tr (by omega) (by omega)
            refine Evt.ite_pos c3 ?_
            by_cases c4 : p = 0
            · refine Evt.ite_pos c4 ?_
              by_cases c5 : q = 0
              · exact Evt.ite_pos c5 LL
              · refine Evt.ite_neg c5 (Evt.ite_pos ?_ LL)
                rcases t3 with e | e | e
                · omega
                · have := z (by omega) (by omega) e; omega
                · omega
            · refine Evt.ite_neg c4 (Evt.ite_pos ?_ LL)
              rcases t3 with e | e | e
              · omega
              · have := z (by omega) (by omega) e; omega
              · omega
      · rw [decide_eq_false h2]; exact T
    · exact Evt.ite_neg (by simpa using h1) T
  · exact Evt.ite_neg (by simpa using h0) T
end Go.Proofs.Ytnnlbofmlfafhaa.Pure

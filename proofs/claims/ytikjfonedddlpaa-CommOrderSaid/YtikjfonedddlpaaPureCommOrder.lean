/- CommOrder: what is left of the law, about numbers and lists alone. -/
import Derived.Test.YtikjfonedddlpaaPL03
import Derived.Test.YtikjfonedddlpaaPC3
import Derived.Test.YtikjfonedddlpaaOk
import Derived.Test.YtikjfonedddlpaaPx0
import Derived.Test.YtikjfonedddlpaaPx20
import Derived.Test.YtikjfonedddlpaaPx5
import Derived.Test.YtikjfonedddlpaaPx9
namespace Go.Proofs.Ytikjfonedddlpaa.Pure
open Go.RowKit Go.Proofs.Ytikjfonedddlpaa Go.Proofs.Ytikjfonedddlpaa.P Go.Proofs.YtikjfonedddlpaaW.PrintWords Go.Proofs.YtikjfonedddlpaaW.PrintLast Go.Proofs.YtikjfonedddlpaaW.PrintMore
set_option linter.unusedVariables false

theorem CommOrder (x0 : List S23) (x1 : List S23) (x2 : List S23) (ok_0 : (okL 16 (ok23)) x0) (ok_1 : (okL 16 (ok23)) x1) (ok_2 : (okL 16 (ok23)) x2) : ∃ k, Go.Proofs.Ytikjfonedddlpaa.P.whirligiglaw03_CommOrder.f k x0 x1 x2 = some true := by
  refine Evt.ex (g := fun k => Go.Proofs.Ytikjfonedddlpaa.P.whirligiglaw03_CommOrder.f k x0 x1 x2) ?_
  unfold whirligiglaw03_CommOrder.f
  have L := livesC_ev
  have LL : Evt (fun k => (whirligiglaw03_lives.f k).bind fun t => some t) true := Evt.bind L (Evt.pure _)
  have T : Evt (fun k => whirligiglaw03_CommOrder.j0 k x0 x1 x2 true) true := by
    refine Evt.step ?_
    simp only [whirligiglaw03_CommOrder.j0]
    exact Evt.ite_pos trivial LL
  refine Evt.bindc (few3_is x0) ?_
  by_cases h0 : x0.length ≤ 200
  · refine Evt.ite_pos (decide_eq_true h0) (Evt.bindc (few3_is x1) ?_)
    by_cases h1 : x1.length ≤ 200
    · refine Evt.ite_pos (decide_eq_true h1) (Evt.bindc (few3_is x2) ?_)
      by_cases h2 : x2.length ≤ 200
      · rw [decide_eq_true h2]
        refine Evt.step ?_
        simp only [whirligiglaw03_CommOrder.j0]
        have t1 := cmpCL_tri x0 x1
        have t3 := cmpCL_tri x0 x2
        have a1 := cmpCL_ord.1 x0 x1
        have tr := cmpCL_ord.2 x0 x1 x2
        have z := cmpCL_ord.zero (a := x0) (b := x1) (d := x2)
        have hz := cmpCL_zero x0 x1
        refine Evt.ite_neg (by simp) (Evt.bindc rfl (Evt.bindc rfl (Evt.bindc rfl (Evt.bindc rfl (Evt.ite_pos (by rw [wrap64_in _ (by omega) (by omega)]; exact a1) (Evt.bind (same_ev x0 x1 (by omega)) ?_))))))
        refine Evt.ite_neg ?_ (Evt.ite_neg (by omega) (Evt.ite_neg (by omega) ?_))
        · by_cases e : x0 = x1
          · have := hz.2 e; simp [e] at this ⊢; simp [this]
          · have : cmpCL x0 x1 ≠ 0 := fun q => e (hz.1 q)
            simp [e, this]
        generalize cmpCL x0 x1 = p at *
        generalize cmpCL x1 x2 = q at *
        generalize cmpCL x0 x2 = r at *
        by_cases c1 : p > 0
        · exact Evt.ite_pos c1 LL
        · refine Evt.ite_neg c1 ?_
          by_cases c2 : q > 0
          · exact Evt.ite_pos c2 LL
          · refine Evt.ite_neg c2 ?_
            have c3 := tr (by omega) (by omega)
            refine Evt.ite_pos c3 ?_
            by_cases c4 : p = 0
            · refine Evt.ite_pos c4 ?_
              by_cases c5 : q = 0
              · exact Evt.ite_pos c5 LL
              · refine Evt.ite_neg c5 (Evt.ite_pos ?_ LL)
                rcases t3 with e | e | e
                · omega
                · have := z (by omega) (by omega) e; omega
                · omega
            · refine Evt.ite_neg c4 (Evt.ite_pos ?_ LL)
              rcases t3 with e | e | e
              · omega
              · have := z (by omega) (by omega) e; omega
              · omega
      · rw [decide_eq_false h2]; exact T
    · exact Evt.ite_neg (by simpa using h1) T
  · exact Evt.ite_neg (by simpa using h0) T
end Go.Proofs.Ytikjfonedddlpaa.Pure

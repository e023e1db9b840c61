/- CommSets: what is left of the law, about numbers and lists alone. -/
import Derived.Test.YtikjfonedddlpaaPL03
import Derived.Test.YtikjfonedddlpaaPC3
import Derived.Test.YtikjfonedddlpaaOk
import Derived.Test.YtikjfonedddlpaaPx0
import Derived.Test.YtikjfonedddlpaaPx22
import Derived.Test.YtikjfonedddlpaaPx23
import Derived.Test.YtikjfonedddlpaaPx24
import Derived.Test.YtikjfonedddlpaaPx5
import Derived.Test.YtikjfonedddlpaaPx9
namespace Go.Proofs.Ytikjfonedddlpaa.Pure
open Go.RowKit Go.Proofs.Ytikjfonedddlpaa Go.Proofs.Ytikjfonedddlpaa.P Go.Proofs.YtikjfonedddlpaaW.PrintWords Go.Proofs.YtikjfonedddlpaaW.PrintLast Go.Proofs.YtikjfonedddlpaaW.PrintMore
set_option linter.unusedVariables false

theorem CommSets (x0 : List S23) (x1 : List S23) (x2 : S23) (ok_0 : (okL 16 (ok23)) x0) (ok_1 : (okL 16 (ok23)) x1) (ok_2 : (ok23) x2) : ∃ k, Go.Proofs.Ytikjfonedddlpaa.P.whirligiglaw03_CommSets.f k x0 x1 x2.f0 x2.f1 = some true := by
  refine Evt.ex (g := fun k => Go.Proofs.Ytikjfonedddlpaa.P.whirligiglaw03_CommSets.f k x0 x1 x2.f0 x2.f1) ?_
  unfold whirligiglaw03_CommSets.f
  have LL : Evt (fun k => (whirligiglaw03_lives.f k).bind fun t => some t) true := Evt.bind livesC_ev (Evt.pure _)
  have T : Evt (fun k => whirligiglaw03_CommSets.j0 k x0 x1 true x2.f0 x2.f1) true := by
    refine Evt.step ?_
    simp only [whirligiglaw03_CommSets.j0]
    exact Evt.ite_pos trivial LL
  refine Evt.bindc (few3_is x0) ?_
  by_cases h0 : x0.length ≤ 200
  · refine Evt.ite_pos (decide_eq_true h0) (Evt.bindc (few3_is x1) ?_)
    by_cases h1 : x1.length ≤ 200
    · rw [decide_eq_true h1]
      refine Evt.step ?_
      simp only [whirligiglaw03_CommSets.j0]
      refine Evt.ite_neg (by simp) (Evt.bind (refSet_ev x0 (by omega)) (Evt.bind (commSet_ev x0 (by omega)) (Evt.ite_pos (by simp) (Evt.bind (has_ev x0 x2 (by omega)) ?_))))
      have R : Evt (fun k => (comm_Texts.f k x0).bind fun t => (whirligigref03_Texts.f k x0).bind fun t' => if t.toList = t'.toList then ((comm_Compare.f x0 x1).bind fun u => ((whirligigref03_Compare.f k x0 x1).bind fun u' => (if u = u' then ((whirligiglaw03_lives.f k).bind fun v => (some v)) else (some false)))) else (some false)) true := by
        refine Evt.bind (texts_ev x0 (by omega)) (Evt.bind (refTexts_ev x0 (by omega)) (Evt.ite_pos rfl (Evt.bindc rfl (Evt.bind (refComm_ev x0 x1 (by omega)) (Evt.ite_pos rfl LL)))))
      by_cases e : setB x0 = true
      · refine Evt.ite_pos e (Evt.bind (refInF_ev x0 x2 (by omega)) (Evt.ite_pos (by rw [e]; simp) R))
      · refine Evt.ite_neg e (Evt.ite_pos (by rw [Bool.eq_false_iff.mpr e]; simp) R)
    · rw [decide_eq_false h1]; exact T
  · exact Evt.ite_neg (by simpa using h0) T
end Go.Proofs.Ytikjfonedddlpaa.Pure

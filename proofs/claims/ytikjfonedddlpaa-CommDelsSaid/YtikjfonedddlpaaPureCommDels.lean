/- CommDels: what is left of the law, about numbers and lists alone. -/
import Derived.Test.YtikjfonedddlpaaPL03
import Derived.Test.YtikjfonedddlpaaPC3
import Derived.Test.YtikjfonedddlpaaOk
import Derived.Test.YtikjfonedddlpaaPx0
import Derived.Test.YtikjfonedddlpaaPx29
import Derived.Test.YtikjfonedddlpaaPx9
namespace Go.Proofs.Ytikjfonedddlpaa.Pure
open Go.RowKit Go.Proofs.Ytikjfonedddlpaa Go.Proofs.Ytikjfonedddlpaa.P Go.Proofs.YtikjfonedddlpaaW.PrintWords Go.Proofs.YtikjfonedddlpaaW.PrintLast Go.Proofs.YtikjfonedddlpaaW.PrintMore
set_option linter.unusedVariables false

theorem CommDels (x0 : List S23) (x1 : List S23) (ok_0 : (okL 16 (ok23)) x0) (ok_1 : (okL 16 (ok23)) x1) : ∃ k, Go.Proofs.Ytikjfonedddlpaa.P.whirligiglaw03_CommDels.f k x0 x1 = some true := by
  refine Evt.ex (g := fun k => Go.Proofs.Ytikjfonedddlpaa.P.whirligiglaw03_CommDels.f k x0 x1) ?_
  unfold whirligiglaw03_CommDels.f
  have LL : Evt (fun k => (whirligiglaw03_lives.f k).bind fun t => some t) true := Evt.bind livesC_ev (Evt.pure _)
  have T : Evt (fun k => whirligiglaw03_CommDels.j0 k x0 x1 true) true := by
    refine Evt.step ?_
    simp only [whirligiglaw03_CommDels.j0]
    exact Evt.ite_pos trivial LL
  refine Evt.bindc (few3_is x0) ?_
  by_cases h0 : x0.length ≤ 200
  · refine Evt.ite_pos (decide_eq_true h0) (Evt.bindc (few3_is x1) ?_)
    by_cases h1 : x1.length ≤ 200
    · rw [decide_eq_true h1]
      refine Evt.step ?_
      simp only [whirligiglaw03_CommDels.j0]
      refine Evt.ite_neg (by simp) (Evt.bind (del_ev x0 x1 (by omega)) (Evt.bind (both_ev x0 x1 (by omega) (by omega)) (Evt.bind (refSet_ev x0 (by omega)) ?_)))
      have hlen : ∀ p : S23 → Bool, (x0.filter p).length ≤ 1000 := fun p => by have := List.length_filter_le p x0; omega
      unfold delR bothR
      by_cases e : setB x0 = true
      · rw [if_pos e, if_pos e]
        refine Evt.ite_pos e (Evt.ite_pos rfl (Evt.bind (keep_ev x0 x1 false (by omega) (by omega)) (Evt.bind (same_ev _ _ (hlen _)) ?_)))
        have ef : (x0.filter fun x => !inC x1 x) = x0.filter fun x => inC x1 x == false := by congr 1; funext x; cases inC x1 x <;> rfl
        rw [decide_eq_true ef]
        refine Evt.step ?_
        simp only [whirligiglaw03_CommDels.j1]
        refine Evt.ite_neg (by simp) (Evt.bind (refSet_ev x1 (by omega)) ?_)
        by_cases e1 : setB x1 = true
        · rw [if_pos e1]
          refine Evt.ite_pos e1 (Evt.ite_pos rfl (Evt.bind (keep_ev x0 x1 true (by omega) (by omega)) (Evt.bind (same_ev _ _ (hlen _)) (Evt.ite_pos ?_ LL))))
          have ef : (x0.filter fun x => inC x1 x) = x0.filter fun x => inC x1 x == true := by congr 1; funext x; cases inC x1 x <;> rfl
          exact decide_eq_true ef
        · rw [if_neg e1]
          exact Evt.ite_neg e1 (Evt.ite_pos rfl (Evt.ite_pos rfl LL))
      · rw [if_neg e, if_neg e]
        refine Evt.ite_neg e (Evt.ite_pos ?_ (Evt.ite_pos rfl (Evt.ite_pos rfl LL)))
        exact wrap64_in _ (by simp) (by simp)
    · rw [decide_eq_false h1]; exact T
  · exact Evt.ite_neg (by simpa using h0) T
end Go.Proofs.Ytikjfonedddlpaa.Pure

/- Chapter 03's lives. -/
import Derived.Test.YtikjfonedddlpaaPB
import Derived.Test.YtikjfonedddlpaaPO1
import Derived.Test.YtikjfonedddlpaaPx0
import Derived.Test.YtikjfonedddlpaaPx4
import Derived.Test.YtikjfonedddlpaaPx6
import Derived.Test.YtikjfonedddlpaaPx9
namespace Go.Proofs.Ytikjfonedddlpaa.P
open Go.RowKit Go.Proofs.YtikjfonedddlpaaW.PrintWords Go.Proofs.YtikjfonedddlpaaW.PrintLast Go.Proofs.YtikjfonedddlpaaW.PrintMore
set_option linter.unusedVariables false
theorem sort_two : sortC ([(⟨65000, 1⟩ : S23)] ++ [(⟨65000, 2⟩ : S23)]) = [⟨65000, 1⟩, ⟨65000, 2⟩] := by
  unfold sortC
  refine List.mergeSort_of_pairwise ?_
  decide
theorem add_two : comm_Add.f 9 [(⟨65000, 1⟩ : S23)] [(⟨65000, 2⟩ : S23)] = some ([⟨65000, 1⟩, ⟨65000, 2⟩], 0) := by
  unfold comm_Add.f
  rw [show comm_Set.f 9 [(⟨65000, 1⟩ : S23)] = some true by decide +kernel, Option.bind_some, if_pos rfl, if_neg (by decide), if_pos (by decide), sort_two, if_neg (by decide)]
  rfl
theorem lives03 : whirligiglaw03_lives.f 9 = some true := by
  unfold whirligiglaw03_lives.f
  rw [add_two]
  decide +kernel
theorem livesC_ev : Evt (fun k => whirligiglaw03_lives.f k) true := Evt.of_mono (K := 9) (fun k => whirligiglaw03_lives.mono k) lives03
end Go.Proofs.Ytikjfonedddlpaa.P

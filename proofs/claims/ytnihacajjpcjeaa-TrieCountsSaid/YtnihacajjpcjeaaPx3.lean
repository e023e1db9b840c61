/- Printed by this session's own program (wip/tools/pr.py) out of the translation: functions of the program as plain Lean functions, and that the program's calls come to what these say. -/
import Derived.Test.YtnihacajjpcjeaaPx0
import Derived.Test.YtnihacajjpcjeaaTrC3
namespace Go.Proofs.Ytnihacajjpcjeaa.P
open Go.RowKit Go.Proofs.YtnihacajjpcjeaaW.PrintWords Go.Proofs.YtnihacajjpcjeaaW.PrintLast Go.Proofs.YtnihacajjpcjeaaW.PrintMore
attribute [local go_sem] max2_int min2_int max_two min_two max_three min_three max_four min_four   -- for this text's walks alone
set_option linter.unusedVariables false
set_option linter.unusedSimpArgs false

/-! ### whirligiglaw06_TrieCounts: function 4 -/
-- EXT Derived.Test.YtnihacajjpcjeaaTrC3
-- ALONE
def whirligiglaw06_TrieCounts.f (k : Nat) (l0 : List (S61)) : Option (Bool) := if (l0.all fun x => decide (0 ≤ x.f2.f0) && decide (x.f2.f0 ≤ 4294967295)) = true then some true else none
theorem whirligiglaw06_TrieCounts.mono : ∀ a0 k, LeO (whirligiglaw06_TrieCounts.f k a0) (whirligiglaw06_TrieCounts.f (k + 1) a0) := fun _ _ => LeO.refl _
theorem whirligiglaw06_TrieCounts.calls (k : Nat) (A0 : Option Addr) (c0 : Nat) (l0 : List (S61)) (r : Bool) (w : World) (hr0 : Kd.C k61 w A0 l0.length l0) (hc0 : l0.length ≤ c0) (h : whirligiglaw06_TrieCounts.f k l0 = some r) :
    Calls Try.prog 4 #[.slice A0 l0.length c0] w fun e w' => e = .returned (.bool r) ∧ Below w.heap.size w w' := by
  unfold whirligiglaw06_TrieCounts.f at h
  split at h
  · rename_i hb
    obtain rfl := Option.some.inj h
    simp only [Bool.and_eq_true, List.all_eq_true, decide_eq_true_eq] at hb
    exact counts_calls w A0 c0 l0 hr0 hc0 (fun x hx => hb x hx)
  · cases h

end Go.Proofs.Ytnihacajjpcjeaa.P

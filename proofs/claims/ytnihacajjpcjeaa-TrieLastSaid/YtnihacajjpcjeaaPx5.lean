/- Printed by this session's own program (wip/tools/pr.py) out of the translation: functions of the program as plain Lean functions, and that the program's calls come to what these say. -/
import Derived.Test.YtnihacajjpcjeaaPx0
import Derived.Test.YtnihacajjpcjeaaTrW
namespace Go.Proofs.Ytnihacajjpcjeaa.P
open Go.RowKit Go.Proofs.YtnihacajjpcjeaaW.PrintWords Go.Proofs.YtnihacajjpcjeaaW.PrintLast Go.Proofs.YtnihacajjpcjeaaW.PrintMore
attribute [local go_sem] max2_int min2_int max_two min_two max_three min_three max_four min_four   -- for this text's walks alone
set_option linter.unusedVariables false
set_option linter.unusedSimpArgs false

/-! ### whirligiglaw06_TrieLast: function 5 -/
-- EXT Derived.Test.YtnihacajjpcjeaaTrW
-- ALONE
def whirligiglaw06_TrieLast.f (k : Nat) (l0 : List (S61)) (a1 : Int) : Option (Bool) := if ((l0.all fun x => decide (0 ≤ x.f2.f0) && decide (x.f2.f0 ≤ 4294967295)) && (decide (0 ≤ a1) && decide (a1 ≤ 4294967295))) = true then some true else none
theorem whirligiglaw06_TrieLast.mono : ∀ a0 a1 k, LeO (whirligiglaw06_TrieLast.f k a0 a1) (whirligiglaw06_TrieLast.f (k + 1) a0 a1) := fun _ _ _ => LeO.refl _
theorem whirligiglaw06_TrieLast.calls (k : Nat) (A0 : Option Addr) (c0 : Nat) (l0 : List (S61)) (a1 : Int) (r : Bool) (w : World) (hr0 : Kd.C k61 w A0 l0.length l0) (hc0 : l0.length ≤ c0) (h : whirligiglaw06_TrieLast.f k l0 a1 = some r) :
    Calls Try.prog 5 #[.slice A0 l0.length c0, .int .u32 a1] w fun e w' => e = .returned (.bool r) ∧ Below w.heap.size w w' := by
  unfold whirligiglaw06_TrieLast.f at h
  split at h
  · rename_i hb
    obtain rfl := Option.some.inj h
    simp only [Bool.and_eq_true, List.all_eq_true, decide_eq_true_eq] at hb
    exact last_calls w A0 c0 l0 hr0 hc0 (fun x hx => hb.1 x hx) a1 hb.2
  · cases h

end Go.Proofs.Ytnihacajjpcjeaa.P

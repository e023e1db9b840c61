/- Printed by this session's own program (wip/tools/pr.py) out of the translation: functions of the program as plain Lean functions, and that the program's calls come to what these say. -/
import Derived.Test.YtnihacajjpcjeaaPx0
import Derived.Test.YtnihacajjpcjeaaPx2
import Derived.Test.YtnihacajjpcjeaaTrNi
namespace Go.Proofs.Ytnihacajjpcjeaa.P
open Go.RowKit Go.Proofs.YtnihacajjpcjeaaW.PrintWords Go.Proofs.YtnihacajjpcjeaaW.PrintLast Go.Proofs.YtnihacajjpcjeaaW.PrintMore
attribute [local go_sem] max2_int min2_int max_two min_two max_three min_three max_four min_four   -- for this text's walks alone
set_option linter.unusedVariables false
set_option linter.unusedSimpArgs false

/-! ### whirligiglaw06_TrieNils: function 8 -/
-- EXT Derived.Test.YtnihacajjpcjeaaTrNi
-- ALONE
def whirligiglaw06_TrieNils.f (k : Nat) (a0_0 : Int) (a0_1 : Int) (a0_2 : Int) (a0_3 : Int) (a0_4 : Int) : Option (Bool) := if 0 ≤ a0_2 ∧ a0_2 < 4294967296 then ((addr_May.f a0_2 a0_3).bind fun r => (whirligigref01_May.f k a0_2 a0_3).bind fun q => if r = q then some true else none) else none
theorem whirligiglaw06_TrieNils.mono : ∀ a0_0 a0_1 a0_2 a0_3 a0_4 k, LeO (whirligiglaw06_TrieNils.f k a0_0 a0_1 a0_2 a0_3 a0_4) (whirligiglaw06_TrieNils.f (k + 1) a0_0 a0_1 a0_2 a0_3 a0_4) := by
  intro a0_0 a0_1 a0_2 a0_3 a0_4 k
  unfold whirligiglaw06_TrieNils.f
  split
  · exact LeO.bind (LeO.refl _) (fun _ => LeO.bind (whirligigref01_May.mono _ _ _) (fun _ => LeO.refl _))
  · exact LeO.refl _
theorem whirligiglaw06_TrieNils.calls (k : Nat) (a0_0 : Int) (a0_1 : Int) (a0_2 : Int) (a0_3 : Int) (a0_4 : Int) (r : Bool) (w : World) (h : whirligiglaw06_TrieNils.f k a0_0 a0_1 a0_2 a0_3 a0_4 = some r) :
    Calls Try.prog 8 #[.agg #[.int .i64 a0_0, .int .i64 a0_1, .int .u32 a0_2, .int .i64 a0_3, .int .u32 a0_4]] w fun e w' => e = .returned (.bool r) ∧ Below w.heap.size w w' := by
  unfold whirligiglaw06_TrieNils.f at h
  split at h
  · rename_i hb
    obtain ⟨p, hp, h⟩ := Option.bind_eq_some_iff.mp h
    obtain ⟨q, hq, h⟩ := Option.bind_eq_some_iff.mp h
    by_cases e : p = q
    · rw [if_pos e] at h
      obtain rfl := Option.some.inj h
      subst e
      exact nils_calls w a0_0 a0_1 a0_2 a0_3 a0_4 k p hb.1 hb.2 hp hq
    · rw [if_neg e] at h; cases h
  · cases h

end Go.Proofs.Ytnihacajjpcjeaa.P

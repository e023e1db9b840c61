/- The walks of blank, mark, letter and of the function literal in one: each returns its byte test, for every byte. -/
import Derived.Test.YtpolmnemknehaaaLexA
import Derived.Test.YtpolmnemknehaaaShelf
set_option linter.unusedVariables false
set_option linter.unusedSimpArgs false
namespace Go.Proofs.Ytpolmnemknehaaa
open Go.RowKit

def inB (l : List UInt8) (c : Int) : Bool := decide (0 ≤ Lib.indexByte l c.toNat.toUInt8)
def blankB (c : Int) : Bool := inB [32, 9, 13, 10] c
def markB (c : Int) : Bool := inB [123, 125, 59] c
def letterB (c : Int) : Bool := (decide (97 ≤ c) && decide (c ≤ 122)) || ((decide (48 ≤ c) && decide (c ≤ 57)) || inB [46, 58, 47, 45, 95] c)

theorem blank_any (c : Int) (w : World) : Calls Try.prog 20 #[.int .u8 c] w fun e w' => e = .returned (.bool (blankB c)) ∧ w = w' := by
  go_enter Try.func20, Try.ntmps20
  go_wp2_with (go_at_call 34; refine (Try.strings_IndexByte _ _ _).mono ?_; rintro e w' ⟨rfl, rfl⟩)
  go_ret
  exact ⟨rfl, rfl⟩
theorem mark_any (c : Int) (w : World) : Calls Try.prog 24 #[.int .u8 c] w fun e w' => e = .returned (.bool (markB c)) ∧ w = w' := by
  go_enter Try.func24, Try.ntmps24
  go_wp2_with (go_at_call 34; refine (Try.strings_IndexByte _ _ _).mono ?_; rintro e w' ⟨rfl, rfl⟩)
  go_ret
  exact ⟨rfl, rfl⟩
theorem letter_any (c : Int) (w : World) : Calls Try.prog 27 #[.int .u8 c] w fun e w' => e = .returned (.bool (letterB c)) ∧ w = w' := by
  by_cases h1 : 97 ≤ c <;> by_cases h2 : c ≤ 122 <;> by_cases h3 : 48 ≤ c <;> by_cases h4 : c ≤ 57
  all_goals
    first
    | omega
    | (go_enter Try.func27, Try.ntmps27
       go_wp2_with (go_at_call 34; refine (Try.strings_IndexByte _ _ _).mono ?_; rintro e w' ⟨rfl, rfl⟩)
       go_ret
       refine ⟨?_, rfl⟩
       show Ending.returned (.bool _) = _
       congr 2
       unfold letterB inB
       rw [show decide (97 ≤ c) = _ from by first | exact decide_eq_true (by omega) | exact decide_eq_false (by omega), show decide (c ≤ 122) = _ from by first | exact decide_eq_true (by omega) | exact decide_eq_false (by omega), show decide (48 ≤ c) = _ from by first | exact decide_eq_true (by omega) | exact decide_eq_false (by omega), show decide (c ≤ 57) = _ from by first | exact decide_eq_true (by omega) | exact decide_eq_false (by omega)]
       rfl)

theorem nl_any (c : Int) (w : World) : Calls Try.prog 23 #[.int .u8 c] w fun e w' => e = .returned (.bool (c != 10)) ∧ w = w' := by
  go_enter Try.func23, Try.ntmps23
  go_wp2
  go_ret
  exact ⟨rfl, rfl⟩

theorem asks_plain : Asks 35 plainB := ⟨fun _ _ => by go_simp, fun x w _ _ => plain_any x w⟩
theorem asks_letter : Asks 27 letterB := ⟨fun _ _ => by go_simp, fun x w _ _ => letter_any x w⟩
theorem asks_nl : Asks 23 (fun c => c != 10) := ⟨fun _ _ => by go_simp, fun x w _ _ => nl_any x w⟩
end Go.Proofs.Ytpolmnemknehaaa

/- Printed by this session's own program (wip/tools/pr.py) out of the translation: functions of the program as plain Lean functions, and that the program's calls come to what these say. -/
import Derived.Test.YtnnlbofmlfafhaaPx0
import Derived.Test.YtnnlbofmlfafhaaConInt
namespace Go.Proofs.Ytnnlbofmlfafhaa.P
open Go.RowKit Go.Proofs.YtnnlbofmlfafhaaW.PrintWords Go.Proofs.YtnnlbofmlfafhaaW.PrintLast Go.Proofs.YtnnlbofmlfafhaaW.PrintMore
attribute [local go_sem] max2_int min2_int max_two min_two max_three min_three max_four min_four   -- for this text's walks alone
set_option linter.unusedVariables false
set_option linter.unusedSimpArgs false

/-! ### aspath_May: function 41 -/
-- EXT Derived.Test.YtnnlbofmlfafhaaConInt
def asB (n : Int) : Bool := decide (1 ≤ n) && decide (n ≤ 65535)
def aspath_May.f (l0 : List Int) : Option Bool := some (decide (l0.length ≤ 16) && !(l0.any fun n => !asB n))
theorem aspath_May.known (n : Int) (w : World) : Calls Try.prog 72 #[.int .i64 n] w fun e w' => e = .returned (.bool (asB n)) ∧ w' = w := by
  unfold asB
  by_cases h1 : 1 ≤ n
  · have q1 : decide (1 ≤ n) = true := decide_eq_true h1
    go_enter Try.func72, Try.ntmps72
    go_wp2_with fail
    go_ret
    exact ⟨by simp [q1], rfl⟩
  · have q1 : decide (1 ≤ n) = false := decide_eq_false h1
    go_enter Try.func72, Try.ntmps72
    go_wp2_with fail
    go_ret
    exact ⟨by simp [q1], rfl⟩
theorem aspath_May.test (n : Int) (w : World) : Calls Try.prog 71 #[.int .i64 n] w fun e w' => e = .returned (.bool (!asB n)) ∧ Below w.heap.size w w' := by
  go_enter Try.func71, Try.ntmps71
  go_wp2_with fail
  refine (aspath_May.known n w).mono ?_
  rintro e w' ⟨rfl, rfl⟩
  go_wp2_with fail
  go_ret
  exact ⟨rfl, Below.refl _ _⟩
set_option maxHeartbeats 1000000 in
set_option maxRecDepth 100000 in
theorem aspath_May.calls (A0 : Option Addr) (c0 : Nat) (l0 : List Int) (r : Bool) (w : World) (hr0 : Kd.C (Kd.int .i64) w A0 l0.length l0) (hc0 : l0.length ≤ c0) (h : aspath_May.f l0 = some r) :
    Calls Try.prog 41 #[.slice A0 l0.length c0] w fun e w' => e = .returned (.bool r) ∧ Below w.heap.size w w' := by
  unfold aspath_May.f at h
  obtain rfl := Option.some.inj h
  have HR := mkHid hr0
  clear h hr0
  by_cases hl : l0.length ≤ 16
  · have q1 : decide ((l0.length : Int) ≤ 16) = true := decide_eq_true (by omega)
    have q2 : decide (l0.length ≤ 16) = true := decide_eq_true hl
    go_enter Try.func41, Try.ntmps41
    go_wp2_with fail
    refine (con_Int 71 #[] (fun n => !asB n) (fun _ => True) (fun _ _ _ _ => trivial) (fun _ _ => by go_simp) A0 c0 l0 (fun x _ W _ => aspath_May.test x W) _ HR.out trivial).mono ?_
    rintro e w' ⟨rfl, hb⟩
    have HB := mkHid hb
    clear hb
    generalize hg : (l0.any fun n => !asB n) = g
    have HGE := mkHid hg
    clear hg
    go_wp2_with fail
    go_ret
    exact ⟨by rw [q2, HGE.out]; rfl, HB.out⟩
  · have q1 : decide ((l0.length : Int) ≤ 16) = false := decide_eq_false (by omega)
    have q2 : decide (l0.length ≤ 16) = false := decide_eq_false hl
    go_enter Try.func41, Try.ntmps41
    go_wp2_with fail
    go_ret
    exact ⟨by rw [q2]; rfl, Below.refl _ _⟩

end Go.Proofs.Ytnnlbofmlfafhaa.P

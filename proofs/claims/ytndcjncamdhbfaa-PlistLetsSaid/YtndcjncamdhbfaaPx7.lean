/- Printed by this session's own program (wip/tools/pr.py) out of the translation: functions of the program as plain Lean functions, and that the program's calls come to what these say. -/
import Derived.Test.YtndcjncamdhbfaaPx0
import Derived.Test.YtndcjncamdhbfaaPx6
namespace Go.Proofs.Ytndcjncamdhbfaa.P
open Go.RowKit Go.Proofs.YtndcjncamdhbfaaW.PrintWords Go.Proofs.YtndcjncamdhbfaaW.PrintLast Go.Proofs.YtndcjncamdhbfaaW.PrintMore
attribute [local go_sem] max2_int min2_int max_two min_two max_three min_three max_four min_four   -- for this text's walks alone
set_option linter.unusedVariables false
set_option linter.unusedSimpArgs false

/-! ### whirligigref01_Text: function 30 -/
def whirligigref01_Text.f (k : Nat) (a0_0 : Int) (a0_1 : Int) : Option (ByteArray) := (whirligigref01_May.f k a0_0 a0_1).bind fun t136 => (if t136 = true then ((whirligigref01_Number.f k (wrap64 (Int.tdiv (wrap64 (a0_0)) 16777216))).bind fun t137 => (if t137.size + 1 ≤ 9223372036854775807 then ((whirligigref01_Number.f k (Int.tmod (wrap64 (Int.tdiv (wrap64 (a0_0)) 65536)) 256)).bind fun t138 => (if (t137 ++ (⟨#[46]⟩ : ByteArray)).size + t138.size ≤ 9223372036854775807 then (if ((t137 ++ (⟨#[46]⟩ : ByteArray)) ++ t138).size + 1 ≤ 9223372036854775807 then ((whirligigref01_Number.f k (Int.tmod (wrap64 (Int.tdiv (wrap64 (a0_0)) 256)) 256)).bind fun t139 => (if (((t137 ++ (⟨#[46]⟩ : ByteArray)) ++ t138) ++ (⟨#[46]⟩ : ByteArray)).size + t139.size ≤ 9223372036854775807 then (if ((((t137 ++ (⟨#[46]⟩ : ByteArray)) ++ t138) ++ (⟨#[46]⟩ : ByteArray)) ++ t139).size + 1 ≤ 9223372036854775807 then ((whirligigref01_Number.f k (Int.tmod (wrap64 (a0_0)) 256)).bind fun t140 => (if (((((t137 ++ (⟨#[46]⟩ : ByteArray)) ++ t138) ++ (⟨#[46]⟩ : ByteArray)) ++ t139) ++ (⟨#[46]⟩ : ByteArray)).size + t140.size ≤ 9223372036854775807 then (if ((((((t137 ++ (⟨#[46]⟩ : ByteArray)) ++ t138) ++ (⟨#[46]⟩ : ByteArray)) ++ t139) ++ (⟨#[46]⟩ : ByteArray)) ++ t140).size + 1 ≤ 9223372036854775807 then ((whirligigref01_Number.f k a0_1).bind fun t141 => (if (((((((t137 ++ (⟨#[46]⟩ : ByteArray)) ++ t138) ++ (⟨#[46]⟩ : ByteArray)) ++ t139) ++ (⟨#[46]⟩ : ByteArray)) ++ t140) ++ (⟨#[47]⟩ : ByteArray)).size + t141.size ≤ 9223372036854775807 then (some ((((((((t137 ++ (⟨#[46]⟩ : ByteArray)) ++ t138) ++ (⟨#[46]⟩ : ByteArray)) ++ t139) ++ (⟨#[46]⟩ : ByteArray)) ++ t140) ++ (⟨#[47]⟩ : ByteArray)) ++ t141)) else (none))) else (none)) else (none))) else (none)) else (none))) else (none)) else (none))) else (none))) else (some (⟨#[]⟩ : ByteArray)))
theorem whirligigref01_Text.mono : ∀ a0 a1 k, LeO (whirligigref01_Text.f k a0 a1) (whirligigref01_Text.f (k + 1) a0 a1) := by
  intro a0 a1 k
  unfold whirligigref01_Text.f
  repeat' first
      | (with_reducible exact whirligigref01_May.mono _ _ _)
      | (with_reducible exact whirligigref01_Number.mono _ _)
      | (with_reducible exact LeO.refl _)
      | (with_reducible exact LeO.none _)
      | (with_reducible refine LeO.ite ?_ ?_)
      | (with_reducible refine LeO.bind ?_ (fun _ => ?_))
      | exact whirligigref01_May.mono _ _ _
      | exact whirligigref01_Number.mono _ _
      | exact LeO.none _
      | refine LeO.ite ?_ ?_
      | refine LeO.bind ?_ (fun _ => ?_)
def whirligigref01_Text.T4 : Bool × List (List Nat × List Nat) := (true, [([], []), ([0], [0]), ([1], [1]), ([2], [2]), ([], []), ([4], [4]), ([5], [5]), ([6, 2], [6]), ([3, 7], [3, 7]), ([8], [8]), ([], []), ([10], [10]), ([11], [11]), ([12, 7], [12]), ([9, 13], [9, 13]), ([14], [14]), ([], []), ([16], [16]), ([17, 13], [17]), ([15, 18], [15, 18]), ([19], [19]), ([], []), ([21], [21]), ([22, 18], [22]), ([20, 23], [20, 23]), ([24, 23, 0, 1, 2, 3, 4, 5, 6, 7, 8, 9, 10, 11, 12, 13, 14, 15, 16, 17, 18, 19, 20, 21, 22, 23, 24], [24])])
def whirligigref01_Text.B4 : List Nat := [0, 1, 3, 7, 0, 16, 48, 119, 255, 511, 0, 1024, 3072, 7415, 16383, 32767, 0, 65536, 212215, 524287, 1048575, 0, 2097152, 6765815, 16777215, 33554431]
theorem whirligigref01_Text.tab4 : rtab .any (opsOf Try.f30 4) = whirligigref01_Text.T4 := by kernel_rfl
theorem whirligigref01_Text.bits4 : waitsOk whirligigref01_Text.T4.2 whirligigref01_Text.B4 = true := by kernel_rfl
set_option maxHeartbeats 8000000 in
set_option maxRecDepth 100000 in
theorem whirligigref01_Text.calls (k : Nat) (a0_0 : Int) (a0_1 : Int) (r : ByteArray) (w : World) (h : whirligigref01_Text.f k a0_0 a0_1 = some r) :
    Calls Try.prog 30 #[.agg #[.int .u32 a0_0, .int .i64 a0_1]] w fun e w' => e = .returned (.string r) ∧ Below w.heap.size w w' := by
  have hu24 := Try.underlying24
  have HB := Aside0.mk (Below.refl w.heap.size w)
  have H : ((whirligigref01_May.f k a0_0 a0_1).bind fun t136 => (if t136 = true then ((whirligigref01_Number.f k (wrap64 (Int.tdiv (wrap64 (a0_0)) 16777216))).bind fun t137 => (if t137.size + 1 ≤ 9223372036854775807 then ((whirligigref01_Number.f k (Int.tmod (wrap64 (Int.tdiv (wrap64 (a0_0)) 65536)) 256)).bind fun t138 => (if (t137 ++ (⟨#[46]⟩ : ByteArray)).size + t138.size ≤ 9223372036854775807 then (if ((t137 ++ (⟨#[46]⟩ : ByteArray)) ++ t138).size + 1 ≤ 9223372036854775807 then ((whirligigref01_Number.f k (Int.tmod (wrap64 (Int.tdiv (wrap64 (a0_0)) 256)) 256)).bind fun t139 => (if (((t137 ++ (⟨#[46]⟩ : ByteArray)) ++ t138) ++ (⟨#[46]⟩ : ByteArray)).size + t139.size ≤ 9223372036854775807 then (if ((((t137 ++ (⟨#[46]⟩ : ByteArray)) ++ t138) ++ (⟨#[46]⟩ : ByteArray)) ++ t139).size + 1 ≤ 9223372036854775807 then ((whirligigref01_Number.f k (Int.tmod (wrap64 (a0_0)) 256)).bind fun t140 => (if (((((t137 ++ (⟨#[46]⟩ : ByteArray)) ++ t138) ++ (⟨#[46]⟩ : ByteArray)) ++ t139) ++ (⟨#[46]⟩ : ByteArray)).size + t140.size ≤ 9223372036854775807 then (if ((((((t137 ++ (⟨#[46]⟩ : ByteArray)) ++ t138) ++ (⟨#[46]⟩ : ByteArray)) ++ t139) ++ (⟨#[46]⟩ : ByteArray)) ++ t140).size + 1 ≤ 9223372036854775807 then ((whirligigref01_Number.f k a0_1).bind fun t141 => (if (((((((t137 ++ (⟨#[46]⟩ : ByteArray)) ++ t138) ++ (⟨#[46]⟩ : ByteArray)) ++ t139) ++ (⟨#[46]⟩ : ByteArray)) ++ t140) ++ (⟨#[47]⟩ : ByteArray)).size + t141.size ≤ 9223372036854775807 then (some ((((((((t137 ++ (⟨#[46]⟩ : ByteArray)) ++ t138) ++ (⟨#[46]⟩ : ByteArray)) ++ t139) ++ (⟨#[46]⟩ : ByteArray)) ++ t140) ++ (⟨#[47]⟩ : ByteArray)) ++ t141)) else (none))) else (none)) else (none))) else (none)) else (none))) else (none)) else (none))) else (none))) else (some (⟨#[]⟩ : ByteArray)))) = some r := h
  clear h
  replace H := Option.bind_eq_some_iff.mp H
  obtain ⟨t136, A20, H⟩ := H
  replace H : (if t136 = true then ((whirligigref01_Number.f k (wrap64 (Int.tdiv (wrap64 (a0_0)) 16777216))).bind fun t137 => (if t137.size + 1 ≤ 9223372036854775807 then ((whirligigref01_Number.f k (Int.tmod (wrap64 (Int.tdiv (wrap64 (a0_0)) 65536)) 256)).bind fun t138 => (if (t137 ++ (⟨#[46]⟩ : ByteArray)).size + t138.size ≤ 9223372036854775807 then (if ((t137 ++ (⟨#[46]⟩ : ByteArray)) ++ t138).size + 1 ≤ 9223372036854775807 then ((whirligigref01_Number.f k (Int.tmod (wrap64 (Int.tdiv (wrap64 (a0_0)) 256)) 256)).bind fun t139 => (if (((t137 ++ (⟨#[46]⟩ : ByteArray)) ++ t138) ++ (⟨#[46]⟩ : ByteArray)).size + t139.size ≤ 9223372036854775807 then (if ((((t137 ++ (⟨#[46]⟩ : ByteArray)) ++ t138) ++ (⟨#[46]⟩ : ByteArray)) ++ t139).size + 1 ≤ 9223372036854775807 then ((whirligigref01_Number.f k (Int.tmod (wrap64 (a0_0)) 256)).bind fun t140 => (if (((((t137 ++ (⟨#[46]⟩ : ByteArray)) ++ t138) ++ (⟨#[46]⟩ : ByteArray)) ++ t139) ++ (⟨#[46]⟩ : ByteArray)).size + t140.size ≤ 9223372036854775807 then (if ((((((t137 ++ (⟨#[46]⟩ : ByteArray)) ++ t138) ++ (⟨#[46]⟩ : ByteArray)) ++ t139) ++ (⟨#[46]⟩ : ByteArray)) ++ t140).size + 1 ≤ 9223372036854775807 then ((whirligigref01_Number.f k a0_1).bind fun t141 => (if (((((((t137 ++ (⟨#[46]⟩ : ByteArray)) ++ t138) ++ (⟨#[46]⟩ : ByteArray)) ++ t139) ++ (⟨#[46]⟩ : ByteArray)) ++ t140) ++ (⟨#[47]⟩ : ByteArray)).size + t141.size ≤ 9223372036854775807 then (some ((((((((t137 ++ (⟨#[46]⟩ : ByteArray)) ++ t138) ++ (⟨#[46]⟩ : ByteArray)) ++ t139) ++ (⟨#[46]⟩ : ByteArray)) ++ t140) ++ (⟨#[47]⟩ : ByteArray)) ++ t141)) else (none))) else (none)) else (none))) else (none)) else (none))) else (none)) else (none))) else (none))) else (some (⟨#[]⟩ : ByteArray))) = some r := H
  have A2 := Aside0.mk A20
  clear A20
  by_cases c3 : t136 = true
  · subst c3
    have H1 : ((whirligigref01_Number.f k (wrap64 (Int.tdiv (wrap64 (a0_0)) 16777216))).bind fun t137 => (if t137.size + 1 ≤ 9223372036854775807 then ((whirligigref01_Number.f k (Int.tmod (wrap64 (Int.tdiv (wrap64 (a0_0)) 65536)) 256)).bind fun t138 => (if (t137 ++ (⟨#[46]⟩ : ByteArray)).size + t138.size ≤ 9223372036854775807 then (if ((t137 ++ (⟨#[46]⟩ : ByteArray)) ++ t138).size + 1 ≤ 9223372036854775807 then ((whirligigref01_Number.f k (Int.tmod (wrap64 (Int.tdiv (wrap64 (a0_0)) 256)) 256)).bind fun t139 => (if (((t137 ++ (⟨#[46]⟩ : ByteArray)) ++ t138) ++ (⟨#[46]⟩ : ByteArray)).size + t139.size ≤ 9223372036854775807 then (if ((((t137 ++ (⟨#[46]⟩ : ByteArray)) ++ t138) ++ (⟨#[46]⟩ : ByteArray)) ++ t139).size + 1 ≤ 9223372036854775807 then ((whirligigref01_Number.f k (Int.tmod (wrap64 (a0_0)) 256)).bind fun t140 => (if (((((t137 ++ (⟨#[46]⟩ : ByteArray)) ++ t138) ++ (⟨#[46]⟩ : ByteArray)) ++ t139) ++ (⟨#[46]⟩ : ByteArray)).size + t140.size ≤ 9223372036854775807 then (if ((((((t137 ++ (⟨#[46]⟩ : ByteArray)) ++ t138) ++ (⟨#[46]⟩ : ByteArray)) ++ t139) ++ (⟨#[46]⟩ : ByteArray)) ++ t140).size + 1 ≤ 9223372036854775807 then ((whirligigref01_Number.f k a0_1).bind fun t141 => (if (((((((t137 ++ (⟨#[46]⟩ : ByteArray)) ++ t138) ++ (⟨#[46]⟩ : ByteArray)) ++ t139) ++ (⟨#[46]⟩ : ByteArray)) ++ t140) ++ (⟨#[47]⟩ : ByteArray)).size + t141.size ≤ 9223372036854775807 then (some ((((((((t137 ++ (⟨#[46]⟩ : ByteArray)) ++ t138) ++ (⟨#[46]⟩ : ByteArray)) ++ t139) ++ (⟨#[46]⟩ : ByteArray)) ++ t140) ++ (⟨#[47]⟩ : ByteArray)) ++ t141)) else (none))) else (none)) else (none))) else (none)) else (none))) else (none)) else (none))) else (none))) = some r := by rw [if_pos rfl] at H; exact H
    clear H
    have H := H1
    clear H1
    replace H := Option.bind_eq_some_iff.mp H
    obtain ⟨t137, A40, H⟩ := H
    replace H : (if t137.size + 1 ≤ 9223372036854775807 then ((whirligigref01_Number.f k (Int.tmod (wrap64 (Int.tdiv (wrap64 (a0_0)) 65536)) 256)).bind fun t138 => (if (t137 ++ (⟨#[46]⟩ : ByteArray)).size + t138.size ≤ 9223372036854775807 then (if ((t137 ++ (⟨#[46]⟩ : ByteArray)) ++ t138).size + 1 ≤ 9223372036854775807 then ((whirligigref01_Number.f k (Int.tmod (wrap64 (Int.tdiv (wrap64 (a0_0)) 256)) 256)).bind fun t139 => (if (((t137 ++ (⟨#[46]⟩ : ByteArray)) ++ t138) ++ (⟨#[46]⟩ : ByteArray)).size + t139.size ≤ 9223372036854775807 then (if ((((t137 ++ (⟨#[46]⟩ : ByteArray)) ++ t138) ++ (⟨#[46]⟩ : ByteArray)) ++ t139).size + 1 ≤ 9223372036854775807 then ((whirligigref01_Number.f k (Int.tmod (wrap64 (a0_0)) 256)).bind fun t140 => (if (((((t137 ++ (⟨#[46]⟩ : ByteArray)) ++ t138) ++ (⟨#[46]⟩ : ByteArray)) ++ t139) ++ (⟨#[46]⟩ : ByteArray)).size + t140.size ≤ 9223372036854775807 then (if ((((((t137 ++ (⟨#[46]⟩ : ByteArray)) ++ t138) ++ (⟨#[46]⟩ : ByteArray)) ++ t139) ++ (⟨#[46]⟩ : ByteArray)) ++ t140).size + 1 ≤ 9223372036854775807 then ((whirligigref01_Number.f k a0_1).bind fun t141 => (if (((((((t137 ++ (⟨#[46]⟩ : ByteArray)) ++ t138) ++ (⟨#[46]⟩ : ByteArray)) ++ t139) ++ (⟨#[46]⟩ : ByteArray)) ++ t140) ++ (⟨#[47]⟩ : ByteArray)).size + t141.size ≤ 9223372036854775807 then (some ((((((((t137 ++ (⟨#[46]⟩ : ByteArray)) ++ t138) ++ (⟨#[46]⟩ : ByteArray)) ++ t139) ++ (⟨#[46]⟩ : ByteArray)) ++ t140) ++ (⟨#[47]⟩ : ByteArray)) ++ t141)) else (none))) else (none)) else (none))) else (none)) else (none))) else (none)) else (none))) else (none)) = some r := H
    have A4 := Aside0.mk A40
    clear A40
    by_cases c5 : t137.size + 1 ≤ 9223372036854775807
    · rw [if_pos c5] at H
      have c5b0 := eq_true c5
      have c5b1 : decide (t137.size + 1 ≤ 9223372036854775807) = true := decide_eq_true c5
      try have c5b2 : (9223372036854775807 < t137.size + 1) = False := eq_false (Nat.not_lt.2 c5)
      replace H := Option.bind_eq_some_iff.mp H
      obtain ⟨t138, A60, H⟩ := H
      replace H : (if (t137 ++ (⟨#[46]⟩ : ByteArray)).size + t138.size ≤ 9223372036854775807 then (if ((t137 ++ (⟨#[46]⟩ : ByteArray)) ++ t138).size + 1 ≤ 9223372036854775807 then ((whirligigref01_Number.f k (Int.tmod (wrap64 (Int.tdiv (wrap64 (a0_0)) 256)) 256)).bind fun t139 => (if (((t137 ++ (⟨#[46]⟩ : ByteArray)) ++ t138) ++ (⟨#[46]⟩ : ByteArray)).size + t139.size ≤ 9223372036854775807 then (if ((((t137 ++ (⟨#[46]⟩ : ByteArray)) ++ t138) ++ (⟨#[46]⟩ : ByteArray)) ++ t139).size + 1 ≤ 9223372036854775807 then ((whirligigref01_Number.f k (Int.tmod (wrap64 (a0_0)) 256)).bind fun t140 => (if (((((t137 ++ (⟨#[46]⟩ : ByteArray)) ++ t138) ++ (⟨#[46]⟩ : ByteArray)) ++ t139) ++ (⟨#[46]⟩ : ByteArray)).size + t140.size ≤ 9223372036854775807 then (if ((((((t137 ++ (⟨#[46]⟩ : ByteArray)) ++ t138) ++ (⟨#[46]⟩ : ByteArray)) ++ t139) ++ (⟨#[46]⟩ : ByteArray)) ++ t140).size + 1 ≤ 9223372036854775807 then ((whirligigref01_Number.f k a0_1).bind fun t141 => (if (((((((t137 ++ (⟨#[46]⟩ : ByteArray)) ++ t138) ++ (⟨#[46]⟩ : ByteArray)) ++ t139) ++ (⟨#[46]⟩ : ByteArray)) ++ t140) ++ (⟨#[47]⟩ : ByteArray)).size + t141.size ≤ 9223372036854775807 then (some ((((((((t137 ++ (⟨#[46]⟩ : ByteArray)) ++ t138) ++ (⟨#[46]⟩ : ByteArray)) ++ t139) ++ (⟨#[46]⟩ : ByteArray)) ++ t140) ++ (⟨#[47]⟩ : ByteArray)) ++ t141)) else (none))) else (none)) else (none))) else (none)) else (none))) else (none)) else (none)) = some r := H
      have A6 := Aside0.mk A60
      clear A60
      by_cases c7 : (t137 ++ (⟨#[46]⟩ : ByteArray)).size + t138.size ≤ 9223372036854775807
      · rw [if_pos c7] at H
        have c7b0 := eq_true c7
        have c7b1 : decide ((t137 ++ (⟨#[46]⟩ : ByteArray)).size + t138.size ≤ 9223372036854775807) = true := decide_eq_true c7
        try have c7b2 : (9223372036854775807 < (t137 ++ (⟨#[46]⟩ : ByteArray)).size + t138.size) = False := eq_false (Nat.not_lt.2 c7)
        try have c7b3 : (9223372036854775807 < t137.size + 1 + t138.size) = False := eq_false (Nat.not_lt.2 (by have h_ := c7; simp only [ByteArray.size_append] at h_; exact h_))
        by_cases c8 : ((t137 ++ (⟨#[46]⟩ : ByteArray)) ++ t138).size + 1 ≤ 9223372036854775807
        · rw [if_pos c8] at H
          have c8b0 := eq_true c8
          have c8b1 : decide (((t137 ++ (⟨#[46]⟩ : ByteArray)) ++ t138).size + 1 ≤ 9223372036854775807) = true := decide_eq_true c8
          try have c8b2 : (9223372036854775807 < ((t137 ++ (⟨#[46]⟩ : ByteArray)) ++ t138).size + 1) = False := eq_false (Nat.not_lt.2 c8)
          try have c8b3 : (9223372036854775807 < t137.size + 1 + t138.size + 1) = False := eq_false (Nat.not_lt.2 (by have h_ := c8; simp only [ByteArray.size_append] at h_; exact h_))
          replace H := Option.bind_eq_some_iff.mp H
          obtain ⟨t139, A90, H⟩ := H
          replace H : (if (((t137 ++ (⟨#[46]⟩ : ByteArray)) ++ t138) ++ (⟨#[46]⟩ : ByteArray)).size + t139.size ≤ 9223372036854775807 then (if ((((t137 ++ (⟨#[46]⟩ : ByteArray)) ++ t138) ++ (⟨#[46]⟩ : ByteArray)) ++ t139).size + 1 ≤ 9223372036854775807 then ((whirligigref01_Number.f k (Int.tmod (wrap64 (a0_0)) 256)).bind fun t140 => (if (((((t137 ++ (⟨#[46]⟩ : ByteArray)) ++ t138) ++ (⟨#[46]⟩ : ByteArray)) ++ t139) ++ (⟨#[46]⟩ : ByteArray)).size + t140.size ≤ 9223372036854775807 then (if ((((((t137 ++ (⟨#[46]⟩ : ByteArray)) ++ t138) ++ (⟨#[46]⟩ : ByteArray)) ++ t139) ++ (⟨#[46]⟩ : ByteArray)) ++ t140).size + 1 ≤ 9223372036854775807 then ((whirligigref01_Number.f k a0_1).bind fun t141 => (if (((((((t137 ++ (⟨#[46]⟩ : ByteArray)) ++ t138) ++ (⟨#[46]⟩ : ByteArray)) ++ t139) ++ (⟨#[46]⟩ : ByteArray)) ++ t140) ++ (⟨#[47]⟩ : ByteArray)).size + t141.size ≤ 9223372036854775807 then (some ((((((((t137 ++ (⟨#[46]⟩ : ByteArray)) ++ t138) ++ (⟨#[46]⟩ : ByteArray)) ++ t139) ++ (⟨#[46]⟩ : ByteArray)) ++ t140) ++ (⟨#[47]⟩ : ByteArray)) ++ t141)) else (none))) else (none)) else (none))) else (none)) else (none)) = some r := H
          have A9 := Aside0.mk A90
          clear A90
          by_cases c10 : (((t137 ++ (⟨#[46]⟩ : ByteArray)) ++ t138) ++ (⟨#[46]⟩ : ByteArray)).size + t139.size ≤ 9223372036854775807
          · rw [if_pos c10] at H
            have c10b0 := eq_true c10
            have c10b1 : decide ((((t137 ++ (⟨#[46]⟩ : ByteArray)) ++ t138) ++ (⟨#[46]⟩ : ByteArray)).size + t139.size ≤ 9223372036854775807) = true := decide_eq_true c10
            try have c10b2 : (9223372036854775807 < (((t137 ++ (⟨#[46]⟩ : ByteArray)) ++ t138) ++ (⟨#[46]⟩ : ByteArray)).size + t139.size) = False := eq_false (Nat.not_lt.2 c10)
            try have c10b3 : (9223372036854775807 < t137.size + 1 + t138.size + 1 + t139.size) = False := eq_false (Nat.not_lt.2 (by have h_ := c10; simp only [ByteArray.size_append] at h_; exact h_))
            by_cases c11 : ((((t137 ++ (⟨#[46]⟩ : ByteArray)) ++ t138) ++ (⟨#[46]⟩ : ByteArray)) ++ t139).size + 1 ≤ 9223372036854775807
            · rw [if_pos c11] at H
              have c11b0 := eq_true c11
              have c11b1 : decide (((((t137 ++ (⟨#[46]⟩ : ByteArray)) ++ t138) ++ (⟨#[46]⟩ : ByteArray)) ++ t139).size + 1 ≤ 9223372036854775807) = true := decide_eq_true c11
              try have c11b2 : (9223372036854775807 < ((((t137 ++ (⟨#[46]⟩ : ByteArray)) ++ t138) ++ (⟨#[46]⟩ : ByteArray)) ++ t139).size + 1) = False := eq_false (Nat.not_lt.2 c11)
              try have c11b3 : (9223372036854775807 < t137.size + 1 + t138.size + 1 + t139.size + 1) = False := eq_false (Nat.not_lt.2 (by have h_ := c11; simp only [ByteArray.size_append] at h_; exact h_))
              replace H := Option.bind_eq_some_iff.mp H
              obtain ⟨t140, A120, H⟩ := H
              replace H : (if (((((t137 ++ (⟨#[46]⟩ : ByteArray)) ++ t138) ++ (⟨#[46]⟩ : ByteArray)) ++ t139) ++ (⟨#[46]⟩ : ByteArray)).size + t140.size ≤ 9223372036854775807 then (if ((((((t137 ++ (⟨#[46]⟩ : ByteArray)) ++ t138) ++ (⟨#[46]⟩ : ByteArray)) ++ t139) ++ (⟨#[46]⟩ : ByteArray)) ++ t140).size + 1 ≤ 9223372036854775807 then ((whirligigref01_Number.f k a0_1).bind fun t141 => (if (((((((t137 ++ (⟨#[46]⟩ : ByteArray)) ++ t138) ++ (⟨#[46]⟩ : ByteArray)) ++ t139) ++ (⟨#[46]⟩ : ByteArray)) ++ t140) ++ (⟨#[47]⟩ : ByteArray)).size + t141.size ≤ 9223372036854775807 then (some ((((((((t137 ++ (⟨#[46]⟩ : ByteArray)) ++ t138) ++ (⟨#[46]⟩ : ByteArray)) ++ t139) ++ (⟨#[46]⟩ : ByteArray)) ++ t140) ++ (⟨#[47]⟩ : ByteArray)) ++ t141)) else (none))) else (none)) else (none)) = some r := H
              have A12 := Aside0.mk A120
              clear A120
              by_cases c13 : (((((t137 ++ (⟨#[46]⟩ : ByteArray)) ++ t138) ++ (⟨#[46]⟩ : ByteArray)) ++ t139) ++ (⟨#[46]⟩ : ByteArray)).size + t140.size ≤ 9223372036854775807
              · rw [if_pos c13] at H
                have c13b0 := eq_true c13
                have c13b1 : decide ((((((t137 ++ (⟨#[46]⟩ : ByteArray)) ++ t138) ++ (⟨#[46]⟩ : ByteArray)) ++ t139) ++ (⟨#[46]⟩ : ByteArray)).size + t140.size ≤ 9223372036854775807) = true := decide_eq_true c13
                try have c13b2 : (9223372036854775807 < (((((t137 ++ (⟨#[46]⟩ : ByteArray)) ++ t138) ++ (⟨#[46]⟩ : ByteArray)) ++ t139) ++ (⟨#[46]⟩ : ByteArray)).size + t140.size) = False := eq_false (Nat.not_lt.2 c13)
                try have c13b3 : (9223372036854775807 < t137.size + 1 + t138.size + 1 + t139.size + 1 + t140.size) = False := eq_false (Nat.not_lt.2 (by have h_ := c13; simp only [ByteArray.size_append] at h_; exact h_))
                by_cases c14 : ((((((t137 ++ (⟨#[46]⟩ : ByteArray)) ++ t138) ++ (⟨#[46]⟩ : ByteArray)) ++ t139) ++ (⟨#[46]⟩ : ByteArray)) ++ t140).size + 1 ≤ 9223372036854775807
                · rw [if_pos c14] at H
                  have c14b0 := eq_true c14
                  have c14b1 : decide (((((((t137 ++ (⟨#[46]⟩ : ByteArray)) ++ t138) ++ (⟨#[46]⟩ : ByteArray)) ++ t139) ++ (⟨#[46]⟩ : ByteArray)) ++ t140).size + 1 ≤ 9223372036854775807) = true := decide_eq_true c14
                  try have c14b2 : (9223372036854775807 < ((((((t137 ++ (⟨#[46]⟩ : ByteArray)) ++ t138) ++ (⟨#[46]⟩ : ByteArray)) ++ t139) ++ (⟨#[46]⟩ : ByteArray)) ++ t140).size + 1) = False := eq_false (Nat.not_lt.2 c14)
                  try have c14b3 : (9223372036854775807 < t137.size + 1 + t138.size + 1 + t139.size + 1 + t140.size + 1) = False := eq_false (Nat.not_lt.2 (by have h_ := c14; simp only [ByteArray.size_append] at h_; exact h_))
                  replace H := Option.bind_eq_some_iff.mp H
                  obtain ⟨t141, A150, H⟩ := H
                  replace H : (if (((((((t137 ++ (⟨#[46]⟩ : ByteArray)) ++ t138) ++ (⟨#[46]⟩ : ByteArray)) ++ t139) ++ (⟨#[46]⟩ : ByteArray)) ++ t140) ++ (⟨#[47]⟩ : ByteArray)).size + t141.size ≤ 9223372036854775807 then (some ((((((((t137 ++ (⟨#[46]⟩ : ByteArray)) ++ t138) ++ (⟨#[46]⟩ : ByteArray)) ++ t139) ++ (⟨#[46]⟩ : ByteArray)) ++ t140) ++ (⟨#[47]⟩ : ByteArray)) ++ t141)) else (none)) = some r := H
                  have A15 := Aside0.mk A150
                  clear A150
                  by_cases c16 : (((((((t137 ++ (⟨#[46]⟩ : ByteArray)) ++ t138) ++ (⟨#[46]⟩ : ByteArray)) ++ t139) ++ (⟨#[46]⟩ : ByteArray)) ++ t140) ++ (⟨#[47]⟩ : ByteArray)).size + t141.size ≤ 9223372036854775807
                  · rw [if_pos c16] at H
                    have c16b0 := eq_true c16
                    have c16b1 : decide ((((((((t137 ++ (⟨#[46]⟩ : ByteArray)) ++ t138) ++ (⟨#[46]⟩ : ByteArray)) ++ t139) ++ (⟨#[46]⟩ : ByteArray)) ++ t140) ++ (⟨#[47]⟩ : ByteArray)).size + t141.size ≤ 9223372036854775807) = true := decide_eq_true c16
                    try have c16b2 : (9223372036854775807 < (((((((t137 ++ (⟨#[46]⟩ : ByteArray)) ++ t138) ++ (⟨#[46]⟩ : ByteArray)) ++ t139) ++ (⟨#[46]⟩ : ByteArray)) ++ t140) ++ (⟨#[47]⟩ : ByteArray)).size + t141.size) = False := eq_false (Nat.not_lt.2 c16)
                    try have c16b3 : (9223372036854775807 < t137.size + 1 + t138.size + 1 + t139.size + 1 + t140.size + 1 + t141.size) = False := eq_false (Nat.not_lt.2 (by have h_ := c16; simp only [ByteArray.size_append] at h_; exact h_))
                    obtain rfl := Option.some.inj H
                    go_enter Try.func30, Try.ntmps30
                    try go_wp2_with (first | ((with_reducible refine gate_dst (N := 1) rfl ?_); refine box_event ?hg (N := 1) ?hd (cs := #[.int .u32 a0_0, .int .i64 a0_1]) (t := 24) ?hr ?_; (case hd => rfl); (case hg => rfl); (case hr => first | (go_simp; done) | (go_simp; rfl)); intro gb135 hg w17 hbox hb; have n0_ := Aside0.mk (below_step (by repeat (first | (with_reducible first | exact HB.out | apply below_alloc | apply pw_below_drewN | apply below_drew1) | exact HB.out)) hb); have n1_ := Aside0.mk (hbox); have n2_ := Aside0.mk ((by rw [hg]; exact (below_size (by repeat (first | (with_reducible first | exact HB.out | apply below_alloc | apply pw_below_drewN | apply below_drew1) | exact HB.out))) : w.heap.size ≤ gb135)); have n3_ := Aside0.mk ((by rw [hg]; exact (below_size (by repeat (first | (with_reducible first | exact HB.out | apply below_alloc | apply pw_below_drewN | apply below_drew1) | exact HB.out))) : w.heap.size ≤ gb135)); clear HB; have HB := n0_; have BK135 := n1_; have GW135 := n2_; have GE135 := n3_; clear n0_ n1_ n2_ n3_; clear hb hbox hg; have hcz18_0 : w17.cell? ⟨gb135, 0, none⟩ = some (.int .u32 a0_0) := (blk_cell BK135.out 0).trans rfl; have hcz18_1 : w17.cell? ⟨gb135, 1, none⟩ = some (.int .i64 a0_1) := (blk_cell BK135.out 1).trans rfl; have hfz18_0 := blk_frozen BK135.out 0; have hfz18_1 := blk_frozen BK135.out 1) | ((with_reducible refine gate_callee (f := 19) rfl ?_); refine goesL_ (some 5) rfl rfl Try.func19 (by kernel_rfl) rfl #[.agg #[.int .u32 a0_0, .int .i64 a0_1]] rfl (by (try simp only [List.map_toArray, List.map_cons, List.map_nil]); first | done | rfl | (simp only [List.length_drop, List.length_take]; rfl)) ?_; (with_reducible refine (whirligigref01_May.calls k a0_0 a0_1 true _ A2.out).mono ?_); rintro e w19 ⟨rfl, hb⟩; refine ⟨_, rfl, ?_⟩; have n0_ := Aside0.mk (blk_below (g := gb135) (o := .cells #[.int .u32 a0_0, .int .i64 a0_1] 24 (0, 0)) (by (with_reducible repeat (first | refine blk_drewN ?_ _ | refine blk_drew ?_ | refine blk_alloc ?_ _)); exact BK135.out) hb); have n1_ := Aside0.mk (below_step (by repeat (first | (with_reducible first | exact HB.out | apply below_alloc | apply pw_below_drewN | apply below_drew1 | refine below_set ?_ GE135.out) | exact HB.out)) hb); clear BK135; clear HB; have BK135 := n0_; have HB := n1_; clear n0_ n1_; (try clear hb); (try clear hb2); (try clear hk); (try clear hi); have hcz20_0 : w19.cell? ⟨gb135, 0, none⟩ = some (.int .u32 a0_0) := (blk_cell BK135.out 0).trans rfl; have hcz20_1 : w19.cell? ⟨gb135, 1, none⟩ = some (.int .i64 a0_1) := (blk_cell BK135.out 1).trans rfl; have hfz20_0 := blk_frozen BK135.out 0; have hfz20_1 := blk_frozen BK135.out 1))
                    have n0_ := Aside0.mk (blk_drew BK135.out)
                    have n1_ := Aside0.mk (below_drew1 HB.out)
                    clear BK135
                    clear HB
                    have BK135 := n0_
                    have HB := n1_
                    clear n0_ n1_
                    refine start_ (n := 26) (S := fun w' => w'.cell? ⟨gb135, 0, none⟩ = some (.int .u32 a0_0) ∧ w'.cell? ⟨gb135, 1, none⟩ = some (.int .i64 a0_1)) (ds := []) #[false, false, false, false, false, false, false, false, false, false, false, false, false, false, false, false, false, false, false, false, false, false, false, false, false, false] (by kernel_rfl) rfl rfl ⟨(blk_cell BK135.out 0).trans rfl, (blk_cell BK135.out 1).trans rfl⟩ (fun hHeld => ?_); refine with_tabW whirligigref01_Text.tab4 whirligigref01_Text.bits4 (fun HT_ HW_ => ?_)
                    generalize w19.drew = w21 at BK135 HB hHeld ⊢
                    refine pure_ (i := 0) (N := some 10) (v := ?_) (a' := ?_) #[true, false, false, false, false, false, false, false, false, false, false, false, false, false, false, false, false, false, false, false, false, false, false, false, false, false] rfl rfl (any_of HT_.out (by kernel_rfl)) (fun _ _ _ h => h) (Or.inl ⟨by rfl, ?_⟩) ?_ ?_
                    rotate_left
                    · intro w'
                      go_simp
                      with_reducible rfl
                    rotate_left
                    · simp only [Act.put, List.setIfInBounds_toArray, List.set_cons_zero, List.set_cons_succ, i64_w, i32_w]
                      rfl
                    refine pure_ (i := 1) (N := some 11) (v := ?_) (a' := ?_) #[true, true, false, false, false, false, false, false, false, false, false, false, false, false, false, false, false, false, false, false, false, false, false, false, false, false] rfl rfl (any_of HT_.out (by kernel_rfl)) (fun _ _ _ h => h) (Or.inl ⟨by rfl, ?_⟩) ?_ ?_
                    rotate_left
                    · intro w'
                      go_simp
                      with_reducible rfl
                    rotate_left
                    · simp only [Act.put, List.setIfInBounds_toArray, List.set_cons_zero, List.set_cons_succ, i64_w, i32_w]
                      rfl
                    refine pure_ (i := 4) (N := some 14) (v := ?_) (a' := ?_) #[true, true, false, false, true, false, false, false, false, false, false, false, false, false, false, false, false, false, false, false, false, false, false, false, false, false] rfl rfl (any_of HT_.out (by kernel_rfl)) (fun _ _ _ h => h) (Or.inl ⟨by rfl, ?_⟩) ?_ ?_
                    rotate_left
                    · intro w'
                      go_simp
                      with_reducible rfl
                    rotate_left
                    · simp only [Act.put, List.setIfInBounds_toArray, List.set_cons_zero, List.set_cons_succ, i64_w, i32_w]
                      rfl
                    refine pure_ (i := 5) (N := some 15) (v := ?_) (a' := ?_) #[true, true, false, false, true, true, false, false, false, false, false, false, false, false, false, false, false, false, false, false, false, false, false, false, false, false] rfl rfl (any_of HT_.out (by kernel_rfl)) (fun _ _ _ h => h) (Or.inl ⟨by rfl, ?_⟩) ?_ ?_
                    rotate_left
                    · intro w'
                      go_simp
                      with_reducible rfl
                    rotate_left
                    · simp only [Act.put, List.setIfInBounds_toArray, List.set_cons_zero, List.set_cons_succ, i64_w, i32_w]
                      rfl
                    refine pure_ (i := 6) (N := some 16) (v := ?_) (a' := ?_) #[true, true, false, false, true, true, true, false, false, false, false, false, false, false, false, false, false, false, false, false, false, false, false, false, false, false] rfl rfl (any_of HT_.out (by kernel_rfl)) (fun _ _ _ h => h) (Or.inl ⟨by rfl, ?_⟩) ?_ ?_
                    rotate_left
                    · intro w'
                      go_simp
                      with_reducible rfl
                    rotate_left
                    · simp only [Act.put, List.setIfInBounds_toArray, List.set_cons_zero, List.set_cons_succ, i64_w, i32_w]
                      rfl
                    refine pure_ (i := 10) (N := some 20) (v := ?_) (a' := ?_) #[true, true, false, false, true, true, true, false, false, false, true, false, false, false, false, false, false, false, false, false, false, false, false, false, false, false] rfl rfl (any_of HT_.out (by kernel_rfl)) (fun _ _ _ h => h) (Or.inl ⟨by rfl, ?_⟩) ?_ ?_
                    rotate_left
                    · intro w'
                      go_simp
                      with_reducible rfl
                    rotate_left
                    · simp only [Act.put, List.setIfInBounds_toArray, List.set_cons_zero, List.set_cons_succ, i64_w, i32_w]
                      rfl
                    refine pure_ (i := 11) (N := some 21) (v := ?_) (a' := ?_) #[true, true, false, false, true, true, true, false, false, false, true, true, false, false, false, false, false, false, false, false, false, false, false, false, false, false] rfl rfl (any_of HT_.out (by kernel_rfl)) (fun _ _ _ h => h) (Or.inl ⟨by rfl, ?_⟩) ?_ ?_
                    rotate_left
                    · intro w'
                      go_simp
                      with_reducible rfl
                    rotate_left
                    · simp only [Act.put, List.setIfInBounds_toArray, List.set_cons_zero, List.set_cons_succ, i64_w, i32_w]
                      rfl
                    refine pure_ (i := 12) (N := some 22) (v := ?_) (a' := ?_) #[true, true, false, false, true, true, true, false, false, false, true, true, true, false, false, false, false, false, false, false, false, false, false, false, false, false] rfl rfl (any_of HT_.out (by kernel_rfl)) (fun _ _ _ h => h) (Or.inl ⟨by rfl, ?_⟩) ?_ ?_
                    rotate_left
                    · intro w'
                      go_simp
                      with_reducible rfl
                    rotate_left
                    · simp only [Act.put, List.setIfInBounds_toArray, List.set_cons_zero, List.set_cons_succ, i64_w, i32_w]
                      rfl
                    refine pure_ (i := 16) (N := some 26) (v := ?_) (a' := ?_) #[true, true, false, false, true, true, true, false, false, false, true, true, true, false, false, false, true, false, false, false, false, false, false, false, false, false] rfl rfl (any_of HT_.out (by kernel_rfl)) (fun _ _ _ h => h) (Or.inl ⟨by rfl, ?_⟩) ?_ ?_
                    rotate_left
                    · intro w'
                      go_simp
                      with_reducible rfl
                    rotate_left
                    · simp only [Act.put, List.setIfInBounds_toArray, List.set_cons_zero, List.set_cons_succ, i64_w, i32_w]
                      rfl
                    refine pure_ (i := 17) (N := some 27) (v := ?_) (a' := ?_) #[true, true, false, false, true, true, true, false, false, false, true, true, true, false, false, false, true, true, false, false, false, false, false, false, false, false] rfl rfl (any_of HT_.out (by kernel_rfl)) (fun _ _ _ h => h) (Or.inl ⟨by rfl, ?_⟩) ?_ ?_
                    rotate_left
                    · intro w'
                      go_simp
                      with_reducible rfl
                    rotate_left
                    · simp only [Act.put, List.setIfInBounds_toArray, List.set_cons_zero, List.set_cons_succ, i64_w, i32_w]
                      rfl
                    refine pure_ (i := 21) (N := some 31) (v := ?_) (a' := ?_) #[true, true, false, false, true, true, true, false, false, false, true, true, true, false, false, false, true, true, false, false, false, true, false, false, false, false] rfl rfl (any_of HT_.out (by kernel_rfl)) (fun _ _ _ h => h) (Or.inl ⟨by rfl, ?_⟩) ?_ ?_
                    rotate_left
                    · intro w'
                      go_simp
                      with_reducible rfl
                    rotate_left
                    · simp only [Act.put, List.setIfInBounds_toArray, List.set_cons_zero, List.set_cons_succ, i64_w, i32_w]
                      rfl
                    refine take_ (i := 22) (N := some 32) (v := ?_) (a' := ?_) #[true, true, false, false, true, true, true, false, false, false, true, true, true, false, false, false, true, true, false, false, false, true, true, false, false, false] rfl rfl (take_ofW HT_.out HW_.out (by kernel_rfl)) (fun _ _ _ h => h) (Or.inl ⟨by rfl, ?_⟩) hHeld ?_ ?_
                    rotate_left
                    · rintro w' ⟨s0, s1⟩
                      go_simp
                      with_reducible rfl
                    rotate_left
                    · simp only [Act.put, List.setIfInBounds_toArray, List.set_cons_zero, List.set_cons_succ, i64_w, i32_w]
                      rfl
                    refine one_ (i := 2) (N := some 12) #[true, true, true, false, true, true, true, false, false, false, true, true, true, false, false, false, true, true, false, false, false, true, true, false, false, false] rfl rfl (one_of HT_.out (by kernel_rfl)) (by decide) (fun K hK => ?_)
                    refine goes_ Try.func31 (by kernel_rfl) rfl #[.int .i64 (wrap64 (Int.tdiv (wrap64 (a0_0)) 16777216))] (by rfl) rfl rfl (by (try simp only [List.map_toArray, List.map_cons, List.map_nil]); first | done | rfl | (simp only [List.length_drop, List.length_take]; rfl)) ?_
                    with_reducible refine (whirligigref01_Number.calls k (wrap64 (Int.tdiv (wrap64 (a0_0)) 16777216)) t137 _ A4.out).mono ?_
                    rintro e w22 ⟨rfl, hb⟩
                    refine ⟨_, rfl, ?_⟩
                    have n0_ := Aside0.mk (blk_below (g := gb135) (o := .cells #[.int .u32 a0_0, .int .i64 a0_1] 24 (0, 0)) (by (with_reducible repeat (first | refine blk_drewN ?_ _ | refine blk_drew ?_ | refine blk_alloc ?_ _)); exact BK135.out) hb)
                    have n1_ := Aside0.mk (below_step (by repeat (first | (with_reducible first | exact HB.out | apply below_alloc | apply pw_below_drewN | apply below_drew1 | refine below_set ?_ GE135.out) | exact HB.out)) hb)
                    clear BK135
                    clear HB
                    have BK135 := n0_
                    have HB := n1_
                    clear n0_ n1_
                    (try clear hb)
                    (try clear hb2)
                    (try clear hk)
                    (try clear hi)
                    refine hK.out _ _ ⟨(blk_cell BK135.out 0).trans rfl, (blk_cell BK135.out 1).trans rfl⟩ (fun hHeld => ?_)
                    clear hK K
                    refine norm_ (a' := ?_) ?_ ?_
                    rotate_left
                    · show Act.put _ (some 12) _ = _
                      simp only [Act.put, List.setIfInBounds_toArray, List.set_cons_zero, List.set_cons_succ, i64_w, i32_w]
                      rfl
                    refine pure_ (i := 3) (N := some 13) (v := ?_) (a' := ?_) #[true, true, true, true, true, true, true, false, false, false, true, true, true, false, false, false, true, true, false, false, false, true, true, false, false, false] rfl rfl (any_of HT_.out (by kernel_rfl)) (fun _ _ _ h => h) (Or.inl ⟨by rfl, ?_⟩) ?_ ?_
                    rotate_left
                    · intro w'
                      go_simp
                      with_reducible rfl
                    rotate_left
                    · simp only [Act.put, List.setIfInBounds_toArray, List.set_cons_zero, List.set_cons_succ, i64_w, i32_w]
                      rfl
                    refine one_ (i := 7) (N := some 17) #[true, true, true, true, true, true, true, true, false, false, true, true, true, false, false, false, true, true, false, false, false, true, true, false, false, false] rfl rfl (one_of HT_.out (by kernel_rfl)) (by decide) (fun K hK => ?_)
                    refine goes_ Try.func31 (by kernel_rfl) rfl #[.int .i64 (Int.tmod (wrap64 (Int.tdiv (wrap64 (a0_0)) 65536)) 256)] (by rfl) rfl rfl (by (try simp only [List.map_toArray, List.map_cons, List.map_nil]); first | done | rfl | (simp only [List.length_drop, List.length_take]; rfl)) ?_
                    with_reducible refine (whirligigref01_Number.calls k (Int.tmod (wrap64 (Int.tdiv (wrap64 (a0_0)) 65536)) 256) t138 _ A6.out).mono ?_
                    rintro e w23 ⟨rfl, hb⟩
                    refine ⟨_, rfl, ?_⟩
                    have n0_ := Aside0.mk (blk_below (g := gb135) (o := .cells #[.int .u32 a0_0, .int .i64 a0_1] 24 (0, 0)) (by (with_reducible repeat (first | refine blk_drewN ?_ _ | refine blk_drew ?_ | refine blk_alloc ?_ _)); exact BK135.out) hb)
                    have n1_ := Aside0.mk (below_step (by repeat (first | (with_reducible first | exact HB.out | apply below_alloc | apply pw_below_drewN | apply below_drew1 | refine below_set ?_ GE135.out) | exact HB.out)) hb)
                    clear BK135
                    clear HB
                    have BK135 := n0_
                    have HB := n1_
                    clear n0_ n1_
                    (try clear hb)
                    (try clear hb2)
                    (try clear hk)
                    (try clear hi)
                    refine hK.out _ _ ⟨(blk_cell BK135.out 0).trans rfl, (blk_cell BK135.out 1).trans rfl⟩ (fun hHeld => ?_)
                    clear hK K
                    refine norm_ (a' := ?_) ?_ ?_
                    rotate_left
                    · show Act.put _ (some 17) _ = _
                      simp only [Act.put, List.setIfInBounds_toArray, List.set_cons_zero, List.set_cons_succ, i64_w, i32_w]
                      rfl
                    refine pure_ (i := 8) (N := some 18) (v := ?_) (a' := ?_) #[true, true, true, true, true, true, true, true, true, false, true, true, true, false, false, false, true, true, false, false, false, true, true, false, false, false] rfl rfl (any_of HT_.out (by kernel_rfl)) (fun _ _ _ h => h) (Or.inl ⟨by rfl, ?_⟩) ?_ ?_
                    rotate_left
                    · intro w'
                      go_simp
                      with_reducible rfl
                    rotate_left
                    · simp only [Act.put, List.setIfInBounds_toArray, List.set_cons_zero, List.set_cons_succ, i64_w, i32_w]
                      rfl
                    refine pure_ (i := 9) (N := some 19) (v := ?_) (a' := ?_) #[true, true, true, true, true, true, true, true, true, true, true, true, true, false, false, false, true, true, false, false, false, true, true, false, false, false] rfl rfl (any_of HT_.out (by kernel_rfl)) (fun _ _ _ h => h) (Or.inl ⟨by rfl, ?_⟩) ?_ ?_
                    rotate_left
                    · intro w'
                      go_simp
                      with_reducible rfl
                    rotate_left
                    · simp only [Act.put, List.setIfInBounds_toArray, List.set_cons_zero, List.set_cons_succ, i64_w, i32_w]
                      rfl
                    refine one_ (i := 13) (N := some 23) #[true, true, true, true, true, true, true, true, true, true, true, true, true, true, false, false, true, true, false, false, false, true, true, false, false, false] rfl rfl (one_of HT_.out (by kernel_rfl)) (by decide) (fun K hK => ?_)
                    refine goes_ Try.func31 (by kernel_rfl) rfl #[.int .i64 (Int.tmod (wrap64 (Int.tdiv (wrap64 (a0_0)) 256)) 256)] (by rfl) rfl rfl (by (try simp only [List.map_toArray, List.map_cons, List.map_nil]); first | done | rfl | (simp only [List.length_drop, List.length_take]; rfl)) ?_
                    with_reducible refine (whirligigref01_Number.calls k (Int.tmod (wrap64 (Int.tdiv (wrap64 (a0_0)) 256)) 256) t139 _ A9.out).mono ?_
                    rintro e w24 ⟨rfl, hb⟩
                    refine ⟨_, rfl, ?_⟩
                    have n0_ := Aside0.mk (blk_below (g := gb135) (o := .cells #[.int .u32 a0_0, .int .i64 a0_1] 24 (0, 0)) (by (with_reducible repeat (first | refine blk_drewN ?_ _ | refine blk_drew ?_ | refine blk_alloc ?_ _)); exact BK135.out) hb)
                    have n1_ := Aside0.mk (below_step (by repeat (first | (with_reducible first | exact HB.out | apply below_alloc | apply pw_below_drewN | apply below_drew1 | refine below_set ?_ GE135.out) | exact HB.out)) hb)
                    clear BK135
                    clear HB
                    have BK135 := n0_
                    have HB := n1_
                    clear n0_ n1_
                    (try clear hb)
                    (try clear hb2)
                    (try clear hk)
                    (try clear hi)
                    refine hK.out _ _ ⟨(blk_cell BK135.out 0).trans rfl, (blk_cell BK135.out 1).trans rfl⟩ (fun hHeld => ?_)
                    clear hK K
                    refine norm_ (a' := ?_) ?_ ?_
                    rotate_left
                    · show Act.put _ (some 23) _ = _
                      simp only [Act.put, List.setIfInBounds_toArray, List.set_cons_zero, List.set_cons_succ, i64_w, i32_w]
                      rfl
                    refine pure_ (i := 14) (N := some 24) (v := ?_) (a' := ?_) #[true, true, true, true, true, true, true, true, true, true, true, true, true, true, true, false, true, true, false, false, false, true, true, false, false, false] rfl rfl (any_of HT_.out (by kernel_rfl)) (fun _ _ _ h => h) (Or.inl ⟨by rfl, ?_⟩) ?_ ?_
                    rotate_left
                    · intro w'
                      go_simp
                      with_reducible rfl
                    rotate_left
                    · simp only [Act.put, List.setIfInBounds_toArray, List.set_cons_zero, List.set_cons_succ, i64_w, i32_w]
                      rfl
                    refine pure_ (i := 15) (N := some 25) (v := ?_) (a' := ?_) #[true, true, true, true, true, true, true, true, true, true, true, true, true, true, true, true, true, true, false, false, false, true, true, false, false, false] rfl rfl (any_of HT_.out (by kernel_rfl)) (fun _ _ _ h => h) (Or.inl ⟨by rfl, ?_⟩) ?_ ?_
                    rotate_left
                    · intro w'
                      go_simp
                      with_reducible rfl
                    rotate_left
                    · simp only [Act.put, List.setIfInBounds_toArray, List.set_cons_zero, List.set_cons_succ, i64_w, i32_w]
                      rfl
                    refine one_ (i := 18) (N := some 28) #[true, true, true, true, true, true, true, true, true, true, true, true, true, true, true, true, true, true, true, false, false, true, true, false, false, false] rfl rfl (one_of HT_.out (by kernel_rfl)) (by decide) (fun K hK => ?_)
                    refine goes_ Try.func31 (by kernel_rfl) rfl #[.int .i64 (Int.tmod (wrap64 (a0_0)) 256)] (by rfl) rfl rfl (by (try simp only [List.map_toArray, List.map_cons, List.map_nil]); first | done | rfl | (simp only [List.length_drop, List.length_take]; rfl)) ?_
                    with_reducible refine (whirligigref01_Number.calls k (Int.tmod (wrap64 (a0_0)) 256) t140 _ A12.out).mono ?_
                    rintro e w25 ⟨rfl, hb⟩
                    refine ⟨_, rfl, ?_⟩
                    have n0_ := Aside0.mk (blk_below (g := gb135) (o := .cells #[.int .u32 a0_0, .int .i64 a0_1] 24 (0, 0)) (by (with_reducible repeat (first | refine blk_drewN ?_ _ | refine blk_drew ?_ | refine blk_alloc ?_ _)); exact BK135.out) hb)
                    have n1_ := Aside0.mk (below_step (by repeat (first | (with_reducible first | exact HB.out | apply below_alloc | apply pw_below_drewN | apply below_drew1 | refine below_set ?_ GE135.out) | exact HB.out)) hb)
                    clear BK135
                    clear HB
                    have BK135 := n0_
                    have HB := n1_
                    clear n0_ n1_
                    (try clear hb)
                    (try clear hb2)
                    (try clear hk)
                    (try clear hi)
                    refine hK.out _ _ ⟨(blk_cell BK135.out 0).trans rfl, (blk_cell BK135.out 1).trans rfl⟩ (fun hHeld => ?_)
                    clear hK K
                    refine norm_ (a' := ?_) ?_ ?_
                    rotate_left
                    · show Act.put _ (some 28) _ = _
                      simp only [Act.put, List.setIfInBounds_toArray, List.set_cons_zero, List.set_cons_succ, i64_w, i32_w]
                      rfl
                    refine pure_ (i := 19) (N := some 29) (v := ?_) (a' := ?_) #[true, true, true, true, true, true, true, true, true, true, true, true, true, true, true, true, true, true, true, true, false, true, true, false, false, false] rfl rfl (any_of HT_.out (by kernel_rfl)) (fun _ _ _ h => h) (Or.inl ⟨by rfl, ?_⟩) ?_ ?_
                    rotate_left
                    · intro w'
                      go_simp
                      with_reducible rfl
                    rotate_left
                    · simp only [Act.put, List.setIfInBounds_toArray, List.set_cons_zero, List.set_cons_succ, i64_w, i32_w]
                      rfl
                    refine pure_ (i := 20) (N := some 30) (v := ?_) (a' := ?_) #[true, true, true, true, true, true, true, true, true, true, true, true, true, true, true, true, true, true, true, true, true, true, true, false, false, false] rfl rfl (any_of HT_.out (by kernel_rfl)) (fun _ _ _ h => h) (Or.inl ⟨by rfl, ?_⟩) ?_ ?_
                    rotate_left
                    · intro w'
                      go_simp
                      with_reducible rfl
                    rotate_left
                    · simp only [Act.put, List.setIfInBounds_toArray, List.set_cons_zero, List.set_cons_succ, i64_w, i32_w]
                      rfl
                    refine one_ (i := 23) (N := some 33) #[true, true, true, true, true, true, true, true, true, true, true, true, true, true, true, true, true, true, true, true, true, true, true, true, false, false] rfl rfl (one_of HT_.out (by kernel_rfl)) (by decide) (fun K hK => ?_)
                    refine goes_ Try.func31 (by kernel_rfl) rfl #[.int .i64 a0_1] (by rfl) rfl rfl (by (try simp only [List.map_toArray, List.map_cons, List.map_nil]); first | done | rfl | (simp only [List.length_drop, List.length_take]; rfl)) ?_
                    with_reducible refine (whirligigref01_Number.calls k a0_1 t141 _ A15.out).mono ?_
                    rintro e w26 ⟨rfl, hb⟩
                    refine ⟨_, rfl, ?_⟩
                    have n0_ := Aside0.mk (blk_below (g := gb135) (o := .cells #[.int .u32 a0_0, .int .i64 a0_1] 24 (0, 0)) (by (with_reducible repeat (first | refine blk_drewN ?_ _ | refine blk_drew ?_ | refine blk_alloc ?_ _)); exact BK135.out) hb)
                    have n1_ := Aside0.mk (below_step (by repeat (first | (with_reducible first | exact HB.out | apply below_alloc | apply pw_below_drewN | apply below_drew1 | refine below_set ?_ GE135.out) | exact HB.out)) hb)
                    clear BK135
                    clear HB
                    have BK135 := n0_
                    have HB := n1_
                    clear n0_ n1_
                    (try clear hb)
                    (try clear hb2)
                    (try clear hk)
                    (try clear hi)
                    refine hK.out _ _ ⟨(blk_cell BK135.out 0).trans rfl, (blk_cell BK135.out 1).trans rfl⟩ (fun hHeld => ?_)
                    clear hK K
                    refine norm_ (a' := ?_) ?_ ?_
                    rotate_left
                    · show Act.put _ (some 33) _ = _
                      simp only [Act.put, List.setIfInBounds_toArray, List.set_cons_zero, List.set_cons_succ, i64_w, i32_w]
                      rfl
                    refine pure_ (i := 24) (N := some 34) (v := ?_) (a' := ?_) #[true, true, true, true, true, true, true, true, true, true, true, true, true, true, true, true, true, true, true, true, true, true, true, true, true, false] rfl rfl (any_of HT_.out (by kernel_rfl)) (fun _ _ _ h => h) (Or.inl ⟨by rfl, ?_⟩) ?_ ?_
                    rotate_left
                    · intro w'
                      go_simp
                      with_reducible rfl
                    rotate_left
                    · simp only [Act.put, List.setIfInBounds_toArray, List.set_cons_zero, List.set_cons_succ, i64_w, i32_w]
                      rfl
                    refine pure_ (i := 25) (N := some 2) (v := ?_) (a' := ?_) #[true, true, true, true, true, true, true, true, true, true, true, true, true, true, true, true, true, true, true, true, true, true, true, true, true, true] rfl rfl (any_of HT_.out (by kernel_rfl)) (fun _ _ _ h => h) (Or.inl ⟨by rfl, ?_⟩) ?_ ?_
                    rotate_left
                    · intro w'
                      go_simp
                      with_reducible rfl
                    rotate_left
                    · simp only [Act.put, List.setIfInBounds_toArray, List.set_cons_zero, List.set_cons_succ, i64_w, i32_w]
                      rfl
                    refine done_ (done_of HT_.out (by kernel_rfl)) ?_
                    try go_wp2
                    go_ret
                    exact ⟨by first | rfl | (simp [errW_none, errW_some] <;> rfl) | (simp [*, errW_none, errW_some] <;> rfl), by repeat (first | (with_reducible first | exact HB.out | apply below_alloc | apply pw_below_drewN | apply below_drew1 | refine below_set ?_ GE135.out) | exact HB.out)⟩
                  · rw [if_neg c16] at H
                    exact absurd H (by simp)
                · rw [if_neg c14] at H
                  exact absurd H (by simp)
              · rw [if_neg c13] at H
                exact absurd H (by simp)
            · rw [if_neg c11] at H
              exact absurd H (by simp)
          · rw [if_neg c10] at H
            exact absurd H (by simp)
        · rw [if_neg c8] at H
          exact absurd H (by simp)
      · rw [if_neg c7] at H
        exact absurd H (by simp)
    · rw [if_neg c5] at H
      exact absurd H (by simp)
  · replace c3 := Bool.eq_false_iff.mpr c3
    subst c3
    have H1 : (some (⟨#[]⟩ : ByteArray)) = some r := by rw [if_neg (show ¬ (false = true) by decide)] at H; exact H
    clear H
    have H := H1
    clear H1
    obtain rfl := Option.some.inj H
    go_enter Try.func30, Try.ntmps30
    go_wp2_with (first | ((with_reducible refine gate_dst (N := 1) rfl ?_); refine box_event ?hg (N := 1) ?hd (cs := #[.int .u32 a0_0, .int .i64 a0_1]) (t := 24) ?hr ?_; (case hd => rfl); (case hg => rfl); (case hr => first | (go_simp; done) | (go_simp; rfl)); intro gb135 hg w27 hbox hb; have n0_ := Aside0.mk (below_step (by repeat (first | (with_reducible first | exact HB.out | apply below_alloc | apply pw_below_drewN | apply below_drew1) | exact HB.out)) hb); have n1_ := Aside0.mk (hbox); have n2_ := Aside0.mk ((by rw [hg]; exact (below_size (by repeat (first | (with_reducible first | exact HB.out | apply below_alloc | apply pw_below_drewN | apply below_drew1) | exact HB.out))) : w.heap.size ≤ gb135)); have n3_ := Aside0.mk ((by rw [hg]; exact (below_size (by repeat (first | (with_reducible first | exact HB.out | apply below_alloc | apply pw_below_drewN | apply below_drew1) | exact HB.out))) : w.heap.size ≤ gb135)); clear HB; have HB := n0_; have BK135 := n1_; have GW135 := n2_; have GE135 := n3_; clear n0_ n1_ n2_ n3_; clear hb hbox hg; have hcz28_0 : w27.cell? ⟨gb135, 0, none⟩ = some (.int .u32 a0_0) := (blk_cell BK135.out 0).trans rfl; have hcz28_1 : w27.cell? ⟨gb135, 1, none⟩ = some (.int .i64 a0_1) := (blk_cell BK135.out 1).trans rfl; have hfz28_0 := blk_frozen BK135.out 0; have hfz28_1 := blk_frozen BK135.out 1) | ((with_reducible refine gate_callee (f := 19) rfl ?_); refine goesL_ (some 5) rfl rfl Try.func19 (by kernel_rfl) rfl #[.agg #[.int .u32 a0_0, .int .i64 a0_1]] rfl (by (try simp only [List.map_toArray, List.map_cons, List.map_nil]); first | done | rfl | (simp only [List.length_drop, List.length_take]; rfl)) ?_; (with_reducible refine (whirligigref01_May.calls k a0_0 a0_1 false _ A2.out).mono ?_); rintro e w29 ⟨rfl, hb⟩; refine ⟨_, rfl, ?_⟩; have n0_ := Aside0.mk (blk_below (g := gb135) (o := .cells #[.int .u32 a0_0, .int .i64 a0_1] 24 (0, 0)) (by (with_reducible repeat (first | refine blk_drewN ?_ _ | refine blk_drew ?_ | refine blk_alloc ?_ _)); exact BK135.out) hb); have n1_ := Aside0.mk (below_step (by repeat (first | (with_reducible first | exact HB.out | apply below_alloc | apply pw_below_drewN | apply below_drew1 | refine below_set ?_ GE135.out) | exact HB.out)) hb); clear BK135; clear HB; have BK135 := n0_; have HB := n1_; clear n0_ n1_; (try clear hb); (try clear hb2); (try clear hk); (try clear hi)))
    go_ret
    exact ⟨by first | rfl | (simp [errW_none, errW_some] <;> rfl) | (simp [*, errW_none, errW_some] <;> rfl), by repeat (first | (with_reducible first | exact HB.out | apply below_alloc | apply pw_below_drewN | apply below_drew1 | refine below_set ?_ GE135.out) | exact HB.out)⟩

end Go.Proofs.Ytndcjncamdhbfaa.P

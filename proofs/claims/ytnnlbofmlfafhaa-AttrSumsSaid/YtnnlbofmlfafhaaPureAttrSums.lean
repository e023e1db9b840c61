/- AttrSums: what is left of the law, about numbers alone. -/
import Derived.Test.YtnnlbofmlfafhaaPB
import Derived.Test.YtnnlbofmlfafhaaPx14
import Derived.Test.YtnnlbofmlfafhaaPx15
import Derived.Test.YtnnlbofmlfafhaaPx2
namespace Go.Proofs.Ytnnlbofmlfafhaa.Pure
open Go.RowKit Go.Proofs.Ytnnlbofmlfafhaa.P Go.Proofs.YtnnlbofmlfafhaaW.PrintWords Go.Proofs.YtnnlbofmlfafhaaW.PrintLast Go.Proofs.YtnnlbofmlfafhaaW.PrintMore
set_option linter.unusedVariables false

theorem wf_i64 {n : Int} (h : (Lit.int .i64 n).wf = true) : -9223372036854775808 ≤ n ∧ n ≤ 9223372036854775807 := by
  unfold Lit.wf at h; simp [IntKind.min, IntKind.max, IntKind.bits, IntKind.signed] at h; omega
theorem lives9 : whirligiglaw09_lives.f 8 = some true := by
  decide +kernel
theorem within_is (a b c : Int) : attr_within.f a b c = some (decide (b ≤ a) && decide (a ≤ c)) := by
  unfold attr_within.f
  by_cases h : a ≥ b
  · rw [if_pos h]; simp [h]
  · rw [if_neg h]; simp [h]
theorem plus_is (a b : Int) (h0 : -9223372036854775808 ≤ a) (h1 : a ≤ 9223372036854775807) : attr_Plus.f a b = some (if 0 ≤ a ∧ a ≤ 1099511627776 ∧ 0 ≤ b ∧ b ≤ 1099511627776 - a then (a + b, 0) else (0, 7)) := by
  unfold attr_Plus.f
  rw [within_is, Option.bind_some]
  by_cases h : 0 ≤ a ∧ a ≤ 1099511627776
  · rw [if_pos (by simp [h]), wrap64_in _ (by omega) (by omega), within_is, Option.bind_some]
    by_cases h2 : 0 ≤ b ∧ b ≤ 1099511627776 - a
    · rw [if_pos (by simp [h2]), if_pos ⟨h.1, h.2, h2.1, h2.2⟩, wrap64_in _ (by omega) (by omega)]
    · rw [if_neg (by simp; omega), if_neg (by omega)]
  · rw [if_neg (by simp; omega), if_neg (by omega)]
theorem AttrSums : whirligiglaw09_AttrSums.Pure := by
  intro a0 a1 w0 w1
  have b0 := wf_i64 w0
  have b1 := wf_i64 w1
  refine ⟨9, ?_⟩
  unfold whirligiglaw09_AttrSums.f
  rw [plus_is _ _ b0.1 b0.2, Option.bind_some]
  by_cases h : 0 ≤ a0 ∧ a0 ≤ 1099511627776 ∧ 0 ≤ a1 ∧ a1 ≤ 1099511627776 - a0
  · obtain ⟨h1, h2, h3, h4⟩ := h
    rw [show (if 0 ≤ a0 ∧ a0 ≤ 1099511627776 ∧ 0 ≤ a1 ∧ a1 ≤ 1099511627776 - a0 then (a0 + a1, (0 : Int)) else (0, 7)) = (a0 + a1, 0) from if_pos ⟨h1, h2, h3, h4⟩]
    rw [if_pos h1, if_pos h3, if_pos h2]
    have q : decide (a1 ≤ wrap64 (1099511627776 - a0)) = true := decide_eq_true (by rw [wrap64_in _ (by omega) (by omega)]; exact h4)
    rw [q]
    simp only [whirligiglaw09_AttrSums.j0]
    rw [if_pos trivial, wrap64_in _ (by omega) (by omega), if_pos rfl, if_pos trivial, lives9]; rfl
  · rw [show (if 0 ≤ a0 ∧ a0 ≤ 1099511627776 ∧ 0 ≤ a1 ∧ a1 ≤ 1099511627776 - a0 then (a0 + a1, (0 : Int)) else (0, 7)) = (0, 7) from if_neg h]
    have q : whirligiglaw09_AttrSums.j0 9 a0 a1 0 7 false = some true := by
      simp only [whirligiglaw09_AttrSums.j0]
      rw [if_neg (by simp), if_pos trivial, if_pos trivial, lives9]; rfl
    by_cases h1 : a0 ≥ 0
    · rw [if_pos h1]
      by_cases h3 : a1 ≥ 0
      · rw [if_pos h3]
        by_cases h2 : a0 ≤ 1099511627776
        · rw [if_pos h2, decide_eq_false (by rw [wrap64_in _ (by omega) (by omega)]; omega)]; exact q
        · rw [if_neg h2]; exact q
      · rw [if_neg h3]; exact q
    · rw [if_neg h1]; exact q
end Go.Proofs.Ytnnlbofmlfafhaa.Pure

/- Prefixes: what the program's and the document's functions come to, in numbers alone. -/
import Derived.Test.YtnihacajjpcjeaaPMy0
import Derived.Test.YtnihacajjpcjeaaPx2
set_option linter.unusedVariables false
set_option linter.unusedSimpArgs false
namespace Go.Proofs.Ytnihacajjpcjeaa.P
open Go.RowKit Go.Proofs.YtnihacajjpcjeaaW.PrintWords Go.Proofs.YtnihacajjpcjeaaW.PrintLast Go.Proofs.YtnihacajjpcjeaaW.PrintMore

/-- the bit of an address at a place -/
def bitI (a i : Int) : Int := a / un (i + 1) % 2
theorem bit_ev : ∀ (d : Nat) (a i : Int), 0 ≤ a → a ≤ 4294967295 → 0 ≤ i → i ≤ 31 → 31 - i = d → Evt (fun k => whirligigref01_Bit.l0 k a i) (bitI a i) := by
  intro d
  induction d with
  | zero =>
    intro a i h0 h1 h2 h3 hd
    obtain rfl : i = 31 := by omega
    refine Evt.step ?_
    simp only [whirligigref01_Bit.l0]
    refine Evt.ite_neg (by omega) (Evt.of fun k => ?_)
    unfold bitI un
    rw [Int.tmod_eq_emod_of_nonneg h0]
    simp
  | succ d ih =>
    intro a i h0 h1 h2 h3 hd
    refine Evt.step ?_
    simp only [whirligigref01_Bit.l0]
    refine Evt.ite_pos (by omega) ?_
    rw [Int.tdiv_eq_ediv_of_nonneg h0, wrap64_in _ (by omega) (by omega), Int.emod_eq_of_lt (by omega) (by omega)]
    have := ih (a / 2) (i + 1) (by omega) (by omega) (by omega) (by omega) (by omega)
    have e : bitI (a / 2) (i + 1) = bitI a i := by
      unfold bitI
      rw [un_succ (i + 1) (by omega), Int.ediv_ediv_of_nonneg (by decide)]
    rw [e] at this
    exact this
theorem refBit_ev (a i : Int) (ha : isA a) (h2 : 0 ≤ i) (h3 : i ≤ 31) : Evt (fun k => whirligigref01_Bit.f k a i) (bitI a i) :=
  bit_ev (31 - i).toNat a i ha.1 ha.2 h2 h3 (by omega)
theorem mod_un (a i : Int) (h : 0 ≤ a) (h1 : i ≤ 31) : a % un i = a % un (i + 1) + un (i + 1) * bitI a i := by
  have hp := un_pos (i + 1)
  rw [un_succ i (by omega)]
  unfold bitI
  have e1 := Int.emod_add_mul_ediv a (un (i + 1))
  have e2 := Int.emod_add_mul_ediv a (2 * un (i + 1))
  have e3 := Int.emod_add_mul_ediv (a / un (i + 1)) 2
  have e4 : a / un (i + 1) / 2 = a / (2 * un (i + 1)) := by rw [Int.ediv_ediv_of_nonneg (Int.le_of_lt hp), Int.mul_comm]
  rw [e4] at e3
  generalize a / (2 * un (i + 1)) = q at *
  generalize a / un (i + 1) % 2 = s at *
  generalize a / un (i + 1) = p at *
  generalize un (i + 1) = u at *
  have e5 : u * p = u * s + 2 * u * q := by
    rw [← e3, Int.mul_add, ← Int.mul_assoc, Int.mul_comm u 2]
  omega
theorem refMayLoop_ev : ∀ (d : Nat) (a i b : Int), isA a → 0 ≤ i → i ≤ 32 → 32 - i = d → Evt (fun k => whirligigref01_May.l0 k i a b) (decide (a % un i = 0)) := by
  intro d
  induction d with
  | zero =>
    intro a i b ha h0 h1 hd
    obtain rfl : i = 32 := by omega
    refine Evt.step ?_
    simp only [whirligigref01_May.l0]
    refine Evt.ite_neg (by omega) (Evt.of fun k => ?_)
    have : a % un 32 = 0 := by show a % 1 = 0; omega
    rw [this]; rfl
  | succ d ih =>
    intro a i b ha h0 h1 hd
    refine Evt.step ?_
    simp only [whirligigref01_May.l0]
    refine Evt.ite_pos (by omega) ?_
    refine Evt.bind (refBit_ev a i ha h0 (by omega)) ?_
    have hm := mod_un a i ha.1 (by omega)
    have hp := un_pos (i + 1)
    have hr : 0 ≤ a % un (i + 1) := Int.emod_nonneg _ (by omega)
    by_cases hb : bitI a i = 0
    · refine Evt.ite_pos hb ?_
      rw [wrap64_in _ (by omega) (by omega)]
      have := ih a (i + 1) b ha (by omega) (by omega) (by omega)
      rw [hb, Int.mul_zero, Int.add_zero] at hm
      rw [hm]; exact this
    · refine Evt.ite_neg hb (Evt.of fun k => ?_)
      have hb1 : bitI a i = 1 := by unfold bitI at *; omega
      rw [hb1, Int.mul_one] at hm
      rw [decide_eq_false (by omega)]
theorem refMay_ev (a b : Int) (ha : isA a) : Evt (fun k => whirligigref01_May.f k a b) (mayB a b) := by
  unfold whirligigref01_May.f mayB
  by_cases h0 : b < 0
  · refine Evt.ite_pos h0 (Evt.step ?_)
    simp only [whirligigref01_May.j0]
    refine Evt.ite_pos (by simp) (Evt.of fun k => ?_)
    rw [decide_eq_false (by omega : ¬ 0 ≤ b)]; rfl
  · refine Evt.ite_neg h0 (Evt.step ?_)
    simp only [whirligigref01_May.j0]
    by_cases h1 : b > 32
    · refine Evt.ite_pos (decide_eq_true h1) (Evt.of fun k => ?_)
      rw [decide_eq_false (by omega : ¬ b ≤ 32)]; simp
    · refine Evt.ite_neg (by simpa using h1) ?_
      have := refMayLoop_ev (32 - b).toNat a b b ha (by omega) (by omega) (by omega)
      rw [decide_eq_true (by omega : 0 ≤ b), decide_eq_true (by omega : b ≤ 32)]
      exact this
end Go.Proofs.Ytnihacajjpcjeaa.P

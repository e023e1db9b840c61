/- Chapter 1's edges, and a prefix at an address: what the document's functions come to. -/
import Derived.Test.YtndcjncamdhbfaaPAddr
import Derived.Test.YtndcjncamdhbfaaPSmp
import Derived.Test.YtndcjncamdhbfaaPx0
import Derived.Test.YtndcjncamdhbfaaPx15
import Derived.Test.YtndcjncamdhbfaaPx16
namespace Go.Proofs.Ytndcjncamdhbfaa.P
open Go.RowKit Go.Proofs.YtndcjncamdhbfaaW.PrintWords Go.Proofs.YtndcjncamdhbfaaW.PrintLast Go.Proofs.YtndcjncamdhbfaaW.PrintMore
set_option linter.unusedVariables false
set_option linter.unusedSimpArgs false

theorem top_leS (a b : Int) (ha : isA a) (hb : mayB a b = true) : a + (un b - 1) ≤ 4294967295 := (last_isA ⟨⟨a, b⟩, 0, 0, false⟩ ((okR_iff _).2 ⟨ha, hb⟩)).2
theorem refLastLoop_ev (a b : Int) (ha : isA a) (hb : mayB a b = true) : ∀ (n : Nat) (i : Int), i = b - 1 + n → i ≤ 31 → Evt (fun k => whirligigref01_last.l0 k (a + un (i + 1) - 1) (un (i + 1) % 4294967296) i a b) (a + (un b - 1)) := by
  obtain ⟨b0, b1, b2⟩ := (mayB_iff a b).1 hb
  intro n
  induction n with
  | zero =>
    intro i hi h1
    refine Evt.step ?_
    simp only [whirligigref01_last.l0]
    refine Evt.ite_neg (by omega) (Evt.of fun k => ?_)
    rw [show i + 1 = b by omega, show a + un b - 1 = a + (un b - 1) by omega]
  | succ n ih =>
    intro i hi h1
    have := ih (i - 1) (by omega) (by omega)
    refine Evt.step ?_
    simp only [whirligigref01_last.l0]
    refine Evt.ite_pos (by omega) ?_
    have hp := un_pos (i + 1)
    have hu := un_succ i (by omega)
    have hle := top_leS a b ha hb
    have hub : ∀ (m : Nat) (j : Int), j = b + m → j ≤ 32 → un j ≤ un b := by
      intro m
      induction m with
      | zero => intro j hj _; rw [hj]; simp
      | succ m ihm =>
        intro j hj hj2
        have h3 := ihm (j - 1) (by omega) (by omega)
        have h4 := un_succ (j - 1) (by omega)
        rw [show j - 1 + 1 = j by omega] at h4
        have := un_pos j
        omega
    have h5 := hub n i (by omega) (by omega)
    have ha0 := ha.1
    rw [show i - 1 + 1 = i by omega] at this
    rw [wrap64_in _ (by omega) (by omega), Int.emod_eq_of_lt (a := un (i + 1)) (by omega) (by omega), Int.emod_eq_of_lt (a := a + un (i + 1) - 1 + un (i + 1)) (by omega) (by omega)]
    rw [show a + un (i + 1) - 1 + un (i + 1) = a + un i - 1 by omega, show un (i + 1) * 2 = un i by omega]
    exact this
theorem reflast_ev (a b : Int) (ha : isA a) (h : mayB a b = true) : Evt (fun k => whirligigref01_last.f k a b) (a + (un b - 1)) := by
  unfold whirligigref01_last.f
  have := refLastLoop_ev a b ha h (32 - b).toNat 31 (by have := (mayB_iff a b).1 h; omega) (by omega)
  have e : un (31 + 1) = 1 := rfl
  rw [e, show a + 1 - 1 = a by omega] at this
  exact this
theorem edges_ev (a b : Int) (ha : isA a) (h : mayB a b = true) : Evt (fun k => whirligigref01_Edges.f k [(⟨a, b⟩ : S24)]) [0, 4294967295, a, (a - 1) % 4294967296, a + (un b - 1), (a + (un b - 1) + 1) % 4294967296] := by
  unfold whirligigref01_Edges.f
  refine Evt.step ?_
  simp only [whirligigref01_Edges.l0]
  refine Evt.ite_pos (by simp) (Evt.ite_pos (by omega) (Evt.bind (reflast_ev a b ha h) (Evt.bind (reflast_ev a b ha h) ?_)))
  refine Evt.bindc rfl (Evt.ite_pos (by simp) (Evt.step ?_))
  simp only [whirligigref01_Edges.l0]
  refine Evt.ite_neg (by rw [wrap64_in _ (by omega) (by omega)]; simp) (Evt.of fun k => rfl)
theorem floS_bit (a j : Int) (ha : isA a) (h0 : 0 ≤ j) (h1 : j ≤ 31) : a / un (j + 1) = 2 * (a / un j) + bitI a j := by
  have hp := un_pos (j + 1)
  have e := un_succ j (by omega)
  have e2 : a / un (j + 1) / 2 = a / un j := by rw [Int.ediv_ediv_of_nonneg (Int.le_of_lt hp), e, Int.mul_comm]
  have e3 := Int.emod_add_mul_ediv (a / un (j + 1)) 2
  rw [e2] at e3
  unfold bitI
  omega
/-- the first i bits are done: an address' top, and noughts -/
theorem at_loop (a b : Int) (ha : isA a) (b0 : 0 ≤ b) (b1 : b ≤ 32) : ∀ (d : Nat) (i x : Int), 32 - i = d → 0 ≤ i → (x = if i ≤ b then a / un i else floS a b / 2 ^ (32 - i).toNat) → Evt (fun k => whirligigref02_At.l0 k a b i x b) (floS a b, b) := by
  intro d
  induction d with
  | zero =>
    intro i x hd hi hx
    obtain rfl : i = 32 := by omega
    refine Evt.step ?_
    simp only [whirligigref02_At.l0]
    refine Evt.ite_neg (by omega) (Evt.of fun k => ?_)
    rw [hx]
    split
    · obtain rfl : b = 32 := by omega
      have e : un 32 = 1 := rfl
      rw [floS_of a 32 (by rw [e]; omega), e]; simp
    · simp
  | succ d ih =>
    intro i x hd hi hx
    refine Evt.step ?_
    simp only [whirligigref02_At.l0]
    refine Evt.ite_pos (by omega) ?_
    have hw : wrap64 (i + 1) = i + 1 := wrap64_in _ (by omega) (by omega)
    rw [hw]
    have hui := un_pos i
    have hu1 := un_pos (i + 1)
    have hus := un_succ i (by omega)
    have hqs := Int.emod_add_mul_ediv a (un i)
    have hd0 : 0 ≤ a / un i := Int.ediv_nonneg ha.1 (by omega)
    have hbnd : ∀ j, 0 ≤ j → j ≤ 32 → a / un j * un j ≤ 4294967295 := by
      intro j _ _
      have := Int.emod_add_mul_ediv a (un j)
      have h2 := Int.emod_nonneg a (show un j ≠ 0 by have := un_pos j; omega)
      rw [Int.mul_comm]; have := ha.2; omega
    by_cases h : i < b
    · refine Evt.ite_pos h (Evt.bind (refBit_ev a i ha hi (by omega)) ?_)
      rw [if_pos (by omega)] at hx
      have hb := floS_bit a i ha hi (by omega)
      have hb1 : a / un (i + 1) ≤ 4294967295 := by
        have h4 := hbnd (i + 1) (by omega) (by omega)
        have h5 : a / un (i + 1) * 1 ≤ a / un (i + 1) * un (i + 1) := Int.mul_le_mul_of_nonneg_left (by omega) (Int.ediv_nonneg ha.1 (by omega))
        omega
      have hbit : 0 ≤ bitI a i ∧ bitI a i ≤ 1 := by unfold bitI; omega
      have : (x * 2 % 4294967296 + bitI a i) % 4294967296 = a / un (i + 1) := by
        rw [hx, Int.emod_eq_of_lt (a := a / un i * 2) (by omega) (by omega)]
        rw [Int.emod_eq_of_lt (by omega) (by omega)]; omega
      rw [this]
      exact ih (i + 1) _ (by omega) (by omega) (by rw [if_pos (by omega)])
    · refine Evt.ite_neg h ?_
      have hF := floS_isA a b ha
      obtain ⟨m, hm⟩ : ∃ m : Nat, (32 - (i + 1)).toNat = m := ⟨_, rfl⟩
      have hm1 : (32 - i).toNat = m + 1 := by omega
      have hp2 : (0 : Int) < 2 ^ m := Int.pow_pos (by decide)
      have hev : floS a b % 2 ^ (m + 1) = 0 := by
        have := mod_up (floS a b) b i (by omega) (by omega) (by
          have := un_pos b
          show (a - a % un b) % un b = 0
          rw [Int.sub_emod, Int.emod_emod, Int.sub_self]; rfl)
        have h1 := this.1
        unfold un at h1
        rwa [hm1] at h1
      have hx2 : x = floS a b / 2 ^ (m + 1) := by
        rw [hx]
        split
        · obtain rfl : i = b := by omega
          rw [floS_mul]
          have : un i = 2 ^ (m + 1) := by unfold un; rw [hm1]
          rw [← this, Int.mul_ediv_cancel_left _ (by omega)]
        · rw [hm1]
      have hdbl : x * 2 = floS a b / 2 ^ m := by
        have e1 := Int.emod_add_mul_ediv (floS a b) (2 ^ (m + 1))
        rw [hev] at e1
        rw [hx2]
        have e2 : floS a b = 2 ^ m * (2 * (floS a b / 2 ^ (m + 1))) := by
          rw [← Int.mul_assoc, show (2 : Int) ^ m * 2 = 2 ^ (m + 1) from (Int.pow_succ 2 m).symm]; omega
        have e3 : floS a b / 2 ^ m = 2 * (floS a b / 2 ^ (m + 1)) := by
          conv => lhs; rw [e2]
          rw [Int.mul_ediv_cancel_left _ (by omega)]
        rw [e3, Int.mul_comm]
      have hle : floS a b / 2 ^ m ≤ floS a b := by
        have e1 := Int.emod_add_mul_ediv (floS a b) (2 ^ m)
        have e2 := Int.emod_nonneg (floS a b) (show (2 : Int) ^ m ≠ 0 by omega)
        have e3 : 0 ≤ floS a b / 2 ^ m := Int.ediv_nonneg hF.1 (by omega)
        have e4 : 1 * (floS a b / 2 ^ m) ≤ 2 ^ m * (floS a b / 2 ^ m) := Int.mul_le_mul_of_nonneg_right (by omega) e3
        omega
      have hnn : 0 ≤ floS a b / 2 ^ m := Int.ediv_nonneg hF.1 (by omega)
      rw [hdbl, Int.emod_eq_of_lt hnn (by have := hF.2; omega)]
      exact ih (i + 1) _ (by omega) (by omega) (by rw [if_neg (by omega), hm])
theorem at_ev (a b : Int) (ha : isA a) (b0 : 0 ≤ b) (b1 : b ≤ 32) : Evt (fun k => whirligigref02_At.f k a b) (floS a b, b) := by
  unfold whirligigref02_At.f
  refine at_loop a b ha b0 b1 32 0 0 (by omega) (by omega) ?_
  rw [if_pos b0]
  have e : un 0 = 4294967296 := rfl
  rw [e, Int.ediv_eq_zero_of_lt ha.1 (by have := ha.2; omega)]
end Go.Proofs.Ytndcjncamdhbfaa.P

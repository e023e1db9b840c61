/- Addresses cut to their first bits. -/
import Derived.Test.YtnihacajjpcjeaaTrQ

namespace Go.Proofs.Ytnihacajjpcjeaa
open Go.RowKit Go.Proofs.Ytnihacajjpcjeaa.P Go.Proofs.YtnihacajjpcjeaaW.PrintWords Go.Proofs.YtnihacajjpcjeaaW.PrintLast Go.Proofs.YtnihacajjpcjeaaW.PrintMore
set_option linter.unusedVariables false
set_option linter.unusedSimpArgs false

/-- the first i bits of an address -/
def adrA (a : Int) (i : Nat) : Int := a - a % 2 ^ (32 - i)
theorem adrA_zero (a : Int) (h0 : 0 ≤ a) (h1 : a < 4294967296) : adrA a 0 = 0 := by
  unfold adrA; rw [show (2 : Int) ^ (32 - 0) = 4294967296 by decide]; omega
theorem adrA_full (a : Int) : adrA a 32 = a := by
  unfold adrA; rw [show (2 : Int) ^ (32 - 32) = 1 by decide]; omega
theorem two_pow_step (i : Nat) (hi : i < 32) : (2 : Int) ^ (32 - i) = 2 * 2 ^ (31 - i) := by
  rw [show 32 - i = (31 - i) + 1 by omega, Int.pow_succ]; omega
theorem adrA_step (a : Int) (i : Nat) (hi : i < 32) : adrA a (i + 1) = adrA a i + (bitB a i).toNat * 2 ^ (31 - i) := by
  unfold adrA bitB
  rw [two_pow_step i hi, show 32 - (i + 1) = 31 - i by omega]
  obtain ⟨p, hp⟩ : ∃ p : Int, p = 2 ^ (31 - i) := ⟨_, rfl⟩
  have hpos : 0 < p := by rw [hp]; exact Int.pow_pos (by decide)
  rw [← hp]
  have e : a % (2 * p) = a % p + p * (a / p % 2) := by
    have k1 := Int.emod_add_mul_ediv a p
    have k2 := Int.emod_add_mul_ediv (a / p) 2
    have k3 := Int.emod_nonneg a (Int.ne_of_gt hpos)
    have k4 := Int.emod_lt_of_pos a hpos
    have k5 : a = (a % p + p * (a / p % 2)) + 2 * p * (a / p / 2) := by
      have k6 : p * (a / p) = p * (a / p % 2) + 2 * p * (a / p / 2) := by
        conv => lhs; rw [← k2]
        rw [Int.mul_add, Int.mul_comm 2 p, Int.mul_assoc]
      omega
    have k7 : 0 ≤ a % p + p * (a / p % 2) ∧ a % p + p * (a / p % 2) < 2 * p := by
      rcases Int.emod_two_eq (a / p) with h | h <;> rw [h] <;> omega
    conv => lhs; rw [k5]
    rw [Int.add_mul_emod_self_left]
    exact Int.emod_eq_of_lt k7.1 k7.2
  rw [e]
  rcases Int.emod_two_eq (a / p) with h | h
  · rw [h]; simp
  · rw [h]; simp; omega
theorem or_add (x y : Int) (k : Nat) (hk : k < 32) (h0 : 0 ≤ x) (h1 : x < 4294967296) (hx : x % 2 ^ (k + 1) = 0) (hy : y = 0 ∨ y = 1) : Go.bits .or .u32 x (y * 2 ^ k) = x + y * 2 ^ k := by
  obtain ⟨n, rfl⟩ := Int.eq_ofNat_of_zero_le h0
  obtain ⟨m, hm⟩ : ∃ m : Nat, y = m := ⟨y.toNat, by omega⟩
  have hm1 : m < 2 := by omega
  subst hm
  have e : ((m : Int) * 2 ^ k) = ((m * 2 ^ k : Nat) : Int) := by simp
  rw [e]
  show IntKind.u32.wrap ((BitVec.ofInt 32 (n : Int) ||| BitVec.ofInt 32 ((m * 2 ^ k : Nat) : Int)).toNat : Int) = _
  have hk2 : 2 ^ k ≤ 2 ^ 31 := Nat.pow_le_pow_right (by decide) (by omega)
  have hmk : m * 2 ^ k < 2 ^ 32 := by
    have : m * 2 ^ k ≤ 1 * 2 ^ k := Nat.mul_le_mul_right _ (by omega)
    omega
  have hn : n < 2 ^ 32 := by omega
  have hd : n % 2 ^ (k + 1) = 0 := by
    have : ((n % 2 ^ (k + 1) : Nat) : Int) = 0 := by rw [← hx]; simp
    omega
  have hor : n ||| (m * 2 ^ k) = n + m * 2 ^ k := by
    obtain ⟨q, hq⟩ : ∃ q, n = 2 ^ (k + 1) * q := ⟨n / 2 ^ (k + 1), by have := Nat.div_add_mod n (2 ^ (k + 1)); rw [hd] at this; omega⟩
    have hb : m * 2 ^ k < 2 ^ (k + 1) := by
      rw [Nat.pow_succ]
      have : m * 2 ^ k ≤ 1 * 2 ^ k := Nat.mul_le_mul_right _ (by omega)
      have := Nat.two_pow_pos k
      omega
    rw [hq, ← Nat.two_pow_add_eq_or_of_lt hb]
  rw [IntKind.wrap_u32, ofN, ofN, BitVec.toNat_or, BitVec.toNat_ofNat, BitVec.toNat_ofNat, Nat.mod_eq_of_lt hn, Nat.mod_eq_of_lt hmk, hor]
  have hlt : n + m * 2 ^ k < 2 ^ 32 := by
    rw [← hor]; exact Nat.or_lt_two_pow hn hmk
  omega
theorem adrA_bound (a : Int) (i : Nat) (h0 : 0 ≤ a) (h1 : a < 4294967296) : 0 ≤ adrA a i ∧ adrA a i ≤ a := by
  unfold adrA
  have hpos : (0 : Int) < 2 ^ (32 - i) := Int.pow_pos (by decide)
  have h2 := Int.emod_nonneg a (Int.ne_of_gt hpos)
  have h3 : a % 2 ^ (32 - i) ≤ a := by
    have := Int.emod_add_mul_ediv a (2 ^ (32 - i))
    have := Int.mul_nonneg (Int.le_of_lt hpos) (Int.ediv_nonneg h0 (Int.le_of_lt hpos))
    omega
  omega
theorem adrA_mod (a : Int) (i : Nat) : adrA a i % 2 ^ (32 - i) = 0 := by
  unfold adrA
  rw [Int.sub_emod, Int.emod_emod_of_dvd _ (Int.dvd_refl _), Int.sub_self, Int.zero_emod]
theorem shl_bit (y : Int) (k : Nat) (hk : k < 32) (hy : y = 0 ∨ y = 1) : shl .u32 y (k : Int) = y * 2 ^ k := by
  show IntKind.u32.wrap (y * 2 ^ min ((k : Int)).toNat 32) = _
  rw [Int.toNat_natCast, Nat.min_eq_left (by omega), IntKind.wrap_u32]
  have hk2 : 2 ^ k ≤ 2 ^ 31 := Nat.pow_le_pow_right (by decide) (by omega)
  have hk3 : (2 : Int) ^ k ≤ 2147483648 := by
    have : ((2 ^ k : Nat) : Int) ≤ 2147483648 := by omega
    simpa using this
  have hpos : (0 : Int) < 2 ^ k := Int.pow_pos (by decide)
  rcases hy with rfl | rfl
  · simp
  · rw [Int.one_mul]; omega
/-- one bit more -/
theorem adrA_or (a : Int) (i : Nat) (hi : i < 32) (h0 : 0 ≤ a) (h1 : a < 4294967296) : Go.bits .or .u32 (adrA a i) (shl .u32 ((bitB a i).toNat : Int) ((31 - i : Nat) : Int)) = adrA a (i + 1) := by
  have hb : ((bitB a i).toNat : Int) = 0 ∨ ((bitB a i).toNat : Int) = 1 := by cases bitB a i <;> simp
  rw [shl_bit _ _ (by omega) hb, or_add _ _ _ (by omega) (adrA_bound a i h0 h1).1 (by have := (adrA_bound a i h0 h1).2; omega) (by rw [show 31 - i + 1 = 32 - i by omega]; exact adrA_mod a i) hb, adrA_step a i hi]
theorem adrA_or0 (a : Int) (i : Nat) (hi : i < 32) (h0 : 0 ≤ a) (h1 : a < 4294967296) (hb : bitB a i = false) : Go.bits .or .u32 (adrA a i) 0 = adrA a (i + 1) := by
  have h := or_add (adrA a i) 0 (31 - i) (by omega) (adrA_bound a i h0 h1).1 (by have := (adrA_bound a i h0 h1).2; omega) (by rw [show 31 - i + 1 = 32 - i by omega]; exact adrA_mod a i) (.inl rfl)
  rw [Int.zero_mul] at h
  rw [h, adrA_step a i hi, hb]
  simp
theorem adrA_or1 (a : Int) (i : Nat) (hi : i < 32) (h0 : 0 ≤ a) (h1 : a < 4294967296) (hb : bitB a i = true) : Go.bits .or .u32 (adrA a i) (2 ^ (31 - i) % 4294967296) = adrA a (i + 1) := by
  have h := or_add (adrA a i) 1 (31 - i) (by omega) (adrA_bound a i h0 h1).1 (by have := (adrA_bound a i h0 h1).2; omega) (by rw [show 31 - i + 1 = 32 - i by omega]; exact adrA_mod a i) (.inr rfl)
  rw [Int.one_mul] at h
  have e := shl_bit 1 (31 - i) (by omega) (.inr rfl)
  rw [Int.one_mul] at e
  have e2 : (2 : Int) ^ (31 - i) % 4294967296 = 2 ^ (31 - i) := by
    have hk2 : 2 ^ (31 - i) ≤ 2 ^ 31 := Nat.pow_le_pow_right (by decide) (by omega)
    have hk3 : (2 : Int) ^ (31 - i) ≤ 2147483648 := by
      have : ((2 ^ (31 - i) : Nat) : Int) ≤ 2147483648 := by omega
      simpa using this
    have hpos : (0 : Int) < 2 ^ (31 - i) := Int.pow_pos (by decide)
    omega
  rw [e2, h, adrA_step a i hi, hb]
  simp
end Go.Proofs.Ytnihacajjpcjeaa

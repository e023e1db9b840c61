/- Bits of an address: trie.bit. -/
import Derived.Test.YtnihacajjpcjeaaTrH
import Derived.Test.YtnihacajjpcjeaaPB
import Derived.Test.YtnihacajjpcjeaaPx2
import Derived.Test.YtnihacajjpcjeaaPx6
namespace Go.Proofs.Ytnihacajjpcjeaa
open Go.RowKit Go.Proofs.Ytnihacajjpcjeaa.P Go.Proofs.YtnihacajjpcjeaaW.PrintWords Go.Proofs.YtnihacajjpcjeaaW.PrintLast Go.Proofs.YtnihacajjpcjeaaW.PrintMore
set_option linter.unusedVariables false
set_option linter.unusedSimpArgs false

theorem and_one (a : Int) (h0 : 0 ≤ a) (h1 : a < 4294967296) : Go.bits .and .u32 a 1 = a % 2 := by
  obtain ⟨x, rfl⟩ := Int.eq_ofNat_of_zero_le h0
  show IntKind.u32.wrap ((BitVec.ofInt 32 (x : Int) &&& BitVec.ofInt 32 1).toNat : Int) = _
  rw [IntKind.wrap_u32, ofN, BitVec.toNat_and, BitVec.toNat_ofNat]
  have : (BitVec.ofInt 32 1).toNat = 1 := by decide
  rw [this, Nat.and_one_is_mod]
  have hx : x % 2 ^ 32 = x := Nat.mod_eq_of_lt (by omega)
  rw [hx]
  omega
theorem shr_in (a : Int) (i : Nat) (hi : i ≤ 32) : shr .u32 a (i : Int) = a / 2 ^ i := by
  show a / 2 ^ min ((i : Int)).toNat 32 = _
  rw [Int.toNat_natCast, Nat.min_eq_left hi]
theorem tbit_ev (a : Int) (i : Nat) (h0 : 0 ≤ a) (h1 : a < 4294967296) (hi : i ≤ 31) : trie_bit.f a (i : Int) = some ((bitB a i).toNat : Int) := by
  have e : wrap64 (31 - (i : Int)) = ((31 - i : Nat) : Int) := by rw [wrap64_in _ (by omega) (by omega)]; omega
  unfold trie_bit.f
  rw [if_pos (by rw [e]; omega), e, shr_in _ _ (by omega)]
  have hp : (0 : Int) < 2 ^ (31 - i) := Int.pow_pos (by decide)
  have q0 : 0 ≤ a / 2 ^ (31 - i) := Int.ediv_nonneg h0 (by omega)
  have q1 : a / 2 ^ (31 - i) ≤ a := Int.ediv_le_self _ h0
  rw [and_one _ q0 (by omega)]
  unfold bitB
  obtain ⟨q, hq⟩ : ∃ q : Int, q = a / 2 ^ (31 - i) % 2 := ⟨_, rfl⟩
  rw [← hq]
  have : q = 0 ∨ q = 1 := by omega
  rcases this with h | h <;> rw [h, wrap64_in _ (by omega) (by omega)] <;> rfl
theorem may_bits {a b : Int} (h : addr_May.f a b = some true) : 0 ≤ b ∧ b ≤ 32 := by
  unfold addr_May.f at h
  by_cases h1 : b ≥ 0
  · rw [if_pos h1] at h
    by_cases h2 : b ≤ 32
    · exact ⟨h1, h2⟩
    · rw [if_neg h2] at h; simp at h
  · rw [if_neg h1] at h; simp at h
/-- a trie: its own blocks, how many values, the values by their ways -/
def Tri {V : Type} (K : TK V) (w : World) (bt : Nat) (own : Nat → Prop) (n : Int) (m : Way → Option V) : Prop :=
  ∃ (D : Way → Bool) (blk : Way → Nat), TrieAt K w bt n D m blk ∧ (∀ π, D π = true → ∃ ρ, (m (π ++ ρ)).isSome = true) ∧ own bt ∧ ∀ π, D π = true → own (blk π)
theorem Tri.below {V : Type} {K : TK V} {w w' : World} {bt : Nat} {own : Nat → Prop} {n : Int} {m : Way → Option V} (h : Tri K w bt own n m) (hb : Below w.heap.size w w') : Tri K w' bt own n m := by
  obtain ⟨D, blk, h1, h2, h3, h4⟩ := h
  exact ⟨D, blk, h1.below hb, h2, h3, h4⟩
theorem Tri.drewN {V : Type} {K : TK V} {w : World} {bt : Nat} {own : Nat → Prop} {n : Int} {m : Way → Option V} (h : Tri K w bt own n m) (k : Nat) : Tri K (w.drewN k) bt own n m := by
  obtain ⟨D, blk, h1, h2, h3, h4⟩ := h
  exact ⟨D, blk, h1.drewN k, h2, h3, h4⟩
theorem Tri.mono {V : Type} {K : TK V} {w : World} {bt : Nat} {own own' : Nat → Prop} {n : Int} {m : Way → Option V} (h : Tri K w bt own n m) (ho : ∀ b, own b → own' b) : Tri K w bt own' n m := by
  obtain ⟨D, blk, h1, h2, h3, h4⟩ := h
  exact ⟨D, blk, h1, h2, ho _ h3, fun π hp => ho _ (h4 π hp)⟩
theorem Tri.lt {V : Type} {K : TK V} {w : World} {bt : Nat} {own : Nat → Prop} {n : Int} {m : Way → Option V} (h : Tri K w bt own n m) : bt < w.heap.size := by
  obtain ⟨D, blk, h1, h2, h3, h4⟩ := h
  exact blk_lt h1.root
/-- what stands at a prefix; r: it may be -/
def look {V : Type} (r : Bool) (m : Way → Option V) (a b : Int) : Option V := if r = true then m (wayA a b.toNat) else none
end Go.Proofs.Ytnihacajjpcjeaa

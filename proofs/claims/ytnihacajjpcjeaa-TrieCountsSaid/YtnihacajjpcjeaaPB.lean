/- Plain words for the pure parts: what comes out with rounds enough; bits; digits. -/
import Derived.Test.YtnihacajjpcjeaaDigP
import Derived.Test.YtnihacajjpcjeaaWMore
import Derived.Laws.BitsLemmas
set_option linter.unusedVariables false
set_option linter.unusedSimpArgs false
namespace Go.Proofs.Ytnihacajjpcjeaa
open Go.RowKit Go.Proofs.YtnihacajjpcjeaaW.PrintWords Go.Proofs.YtnihacajjpcjeaaW.PrintLast Go.Proofs.YtnihacajjpcjeaaW.PrintMore

/-- with rounds enough, r comes out -/
def Evt {α : Type} (g : Nat → Option α) (r : α) : Prop := ∃ K, ∀ k, K ≤ k → g k = some r
theorem Evt.ex {α : Type} {g : Nat → Option α} {r : α} (h : Evt g r) : ∃ k, g k = some r := h.imp fun K hK => hK K (Nat.le_refl _)
theorem Evt.pure {α : Type} (r : α) : Evt (fun _ => some r) r := ⟨0, fun _ _ => rfl⟩
theorem Evt.of {α : Type} {g : Nat → Option α} {r : α} (h : ∀ k, g k = some r) : Evt g r := ⟨0, fun k _ => h k⟩
theorem Evt.bind {α β : Type} {g : Nat → Option α} {f : Nat → α → Option β} {a : α} {b : β} (h : Evt g a) (h2 : Evt (fun k => f k a) b) : Evt (fun k => (g k).bind (f k)) b := by
  obtain ⟨K, h⟩ := h
  obtain ⟨L, h2⟩ := h2
  exact ⟨max K L, fun k hk => by show (g k).bind (f k) = some b; rw [h k (by omega)]; exact h2 k (by omega)⟩
theorem Evt.bindc {α β : Type} {o : Option α} {f : Nat → α → Option β} {a : α} {b : β} (h : o = some a) (h2 : Evt (fun k => f k a) b) : Evt (fun k => o.bind (f k)) b := by
  subst h; exact h2
theorem Evt.step {α : Type} {g : Nat → Option α} {r : α} (h : Evt (fun k => g (k + 1)) r) : Evt g r := by
  obtain ⟨K, h⟩ := h
  refine ⟨K + 1, fun k hk => ?_⟩
  obtain ⟨k, rfl⟩ : ∃ m, k = m + 1 := ⟨k - 1, by omega⟩
  exact h k (by omega)
theorem Evt.ite_pos {α : Type} {c : Prop} [Decidable c] {x y : Nat → Option α} {r : α} (hc : c) (h : Evt x r) : Evt (fun k => if c then x k else y k) r := by
  simp only [if_pos hc]; exact h
theorem Evt.ite_neg {α : Type} {c : Prop} [Decidable c] {x y : Nat → Option α} {r : α} (hc : ¬ c) (h : Evt y r) : Evt (fun k => if c then x k else y k) r := by
  simp only [if_neg hc]; exact h
theorem Evt.of_mono {α : Type} {g : Nat → Option α} {r : α} {K : Nat} (hm : ∀ k, LeO (g k) (g (k + 1))) (h : g K = some r) : Evt g r := by
  refine ⟨K, fun k hk => ?_⟩
  obtain ⟨d, rfl⟩ : ∃ d, k = K + d := ⟨k - K, by omega⟩
  clear hk
  induction d with
  | zero => exact h
  | succ d ih => exact hm _ _ ih
theorem wrap64_in (x : Int) (h0 : -9223372036854775808 ≤ x) (h1 : x ≤ 9223372036854775807) : wrap64 x = x := by unfold wrap64; omega

theorem mask_not (n : Nat) (hn : n ≤ 32) : ~~~(BitVec.ofInt 32 (4294967296 - 2 ^ n)) = BitVec.ofNat 32 (2 ^ n - 1) := by
  have : ∀ n : Fin 33, ~~~(BitVec.ofInt 32 (4294967296 - 2 ^ n.val)) = BitVec.ofNat 32 (2 ^ n.val - 1) := by decide +kernel
  exact this ⟨n, by omega⟩
theorem shl_all (n : Nat) (hn : n ≤ 32) : shl .u32 4294967295 n = 4294967296 - 2 ^ n := by
  have : ∀ n : Fin 33, 0 < n.val → shl .u32 4294967295 n.val = 4294967296 - 2 ^ n.val := by decide +kernel
  rcases Nat.eq_zero_or_pos n with rfl | h
  · decide +kernel
  · exact this ⟨n, by omega⟩ h
theorem ofN (x : Nat) : BitVec.ofInt 32 (x : Int) = BitVec.ofNat 32 x := by simp
theorem andNot_mask (a : Int) (n : Nat) (h0 : 0 ≤ a) (h1 : a < 4294967296) (hn : n ≤ 32) : bits .andNot .u32 a (4294967296 - 2 ^ n) = a % 2 ^ n := by
  obtain ⟨x, rfl⟩ := Int.eq_ofNat_of_zero_le h0
  show IntKind.u32.wrap ((BitVec.ofInt 32 (x : Int) &&& ~~~ BitVec.ofInt 32 (4294967296 - 2 ^ n)).toNat : Int) = _
  rw [mask_not n hn, IntKind.wrap_u32, ofN, BitVec.toNat_and, BitVec.toNat_ofNat, BitVec.toNat_ofNat]
  have hx : x % 2 ^ 32 = x := Nat.mod_eq_of_lt (by omega)
  have hp : 2 ^ n ≤ 2 ^ 32 := Nat.pow_le_pow_right (by decide) hn
  have hpos : 0 < 2 ^ n := Nat.two_pow_pos n
  have hq : (2 ^ n - 1) % 2 ^ 32 = 2 ^ n - 1 := Nat.mod_eq_of_lt (by omega)
  rw [hx, hq, Nat.and_two_pow_sub_one_eq_mod]
  have : x % 2 ^ n < 2 ^ n := Nat.mod_lt _ hpos
  have hz : (((x % 2 ^ n : Nat) : Int)) = (x : Int) % 2 ^ n := by simp
  rw [← hz]
  omega
theorem and_split (x m : BitVec 32) : (x &&& m).toNat + (x &&& ~~~m).toNat = x.toNat := by
  have h0 : (x &&& m) &&& (x &&& ~~~m) = 0#32 := by ext i; simp; cases x[i] <;> simp
  have h1 : (x &&& m) ||| (x &&& ~~~m) = x := by ext i; simp; cases x[i] <;> cases m[i] <;> simp
  have h2 := BitVec.add_eq_or_of_and_eq_zero _ _ h0
  rw [h1] at h2
  have h3 := BitVec.toNat_add_of_and_eq_zero h0
  rw [← h3, h2]
theorem and_mask (a : Int) (n : Nat) (h0 : 0 ≤ a) (h1 : a < 4294967296) (hn : n ≤ 32) : bits .and .u32 a (4294967296 - 2 ^ n) = a - a % 2 ^ n := by
  have e := andNot_mask a n h0 h1 hn
  obtain ⟨x, rfl⟩ := Int.eq_ofNat_of_zero_le h0
  have e' : IntKind.u32.wrap ((BitVec.ofInt 32 (x : Int) &&& ~~~ BitVec.ofInt 32 (4294967296 - 2 ^ n)).toNat : Int) = (x : Int) % 2 ^ n := e
  show IntKind.u32.wrap ((BitVec.ofInt 32 (x : Int) &&& BitVec.ofInt 32 (4294967296 - 2 ^ n)).toNat : Int) = _
  have s := and_split (BitVec.ofInt 32 (x : Int)) (BitVec.ofInt 32 (4294967296 - 2 ^ n))
  rw [ofN] at *
  generalize BitVec.ofInt 32 (4294967296 - 2 ^ n) = m at *
  rw [IntKind.wrap_u32] at *
  have hx : (BitVec.ofNat 32 x).toNat = x := by rw [BitVec.toNat_ofNat]; omega
  rw [hx] at s
  omega

theorem or_join (x y : Int) (n : Nat) (hn : n ≤ 32) (hx₀ : 0 ≤ x) (hx : x % 2 ^ n = 0) (hx₁ : x < 4294967296) (hy₀ : 0 ≤ y) (hy : y < 2 ^ n) : bits .or .u32 x y = x + y := by
  have hp : (2 : Int) ^ n ≤ 2 ^ 32 := by
    have := Nat.pow_le_pow_right (n := 2) (by decide) hn
    have h2 : (((2 : Nat) ^ n : Nat) : Int) ≤ (((2 : Nat) ^ 32 : Nat) : Int) := by exact_mod_cast this
    simpa using h2
  exact bits_join .u32 32 (by decide) (fun n h0 h1 => by rw [IntKind.wrap_u32]; omega) n x y hx₀ hx (by omega) hy₀ hy (by omega)
theorem two_pow_le (n : Nat) (hn : n ≤ 32) : (0 : Int) < 2 ^ n ∧ (2 : Int) ^ n ≤ 4294967296 := by
  have : ∀ n : Fin 33, (0 : Int) < 2 ^ n.val ∧ (2 : Int) ^ n.val ≤ 4294967296 := by decide +kernel
  exact this ⟨n, by omega⟩
end Go.Proofs.Ytnihacajjpcjeaa

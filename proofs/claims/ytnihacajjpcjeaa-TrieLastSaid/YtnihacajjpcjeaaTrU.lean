/- Tries: what stands above an address. -/
import Derived.Test.YtnihacajjpcjeaaTrA
import Derived.Test.YtnihacajjpcjeaaPMay
import Derived.Test.YtnihacajjpcjeaaPx0
import Derived.Test.YtnihacajjpcjeaaPx4
set_option linter.unusedVariables false
set_option linter.unusedSimpArgs false
namespace Go.Proofs.Ytnihacajjpcjeaa.P
open Go.RowKit Go.Proofs.YtnihacajjpcjeaaW.PrintWords Go.Proofs.YtnihacajjpcjeaaW.PrintLast Go.Proofs.YtnihacajjpcjeaaW.PrintMore

/-- does a prefix have an address? -/
def inB (a b x : Int) : Bool := decide (x - x % un b = a)
theorem refHasLoop_ev : ∀ (d : Nat) (a b x i : Int), isA a → isA x → 0 ≤ i → i ≤ b → b ≤ 32 → b - i = d → a / un i = x / un i →
    Evt (fun k => whirligigref01_Has.l0 k x i a b) (decide (a / un b = x / un b)) := by
  intro d
  induction d with
  | zero =>
    intro a b x i ha hx h0 h1 h2 hd he
    obtain rfl : i = b := by omega
    refine Evt.step ?_
    simp only [whirligigref01_Has.l0]
    refine Evt.ite_neg (by omega) (Evt.of fun k => ?_)
    rw [decide_eq_true he]
  | succ d ih =>
    intro a b x i ha hx h0 h1 h2 hd he
    refine Evt.step ?_
    simp only [whirligigref01_Has.l0]
    refine Evt.ite_pos (by omega) ?_
    refine Evt.bind (refBit_ev a i ha h0 (by omega)) ?_
    refine Evt.bind (refBit_ev x i hx h0 (by omega)) ?_
    have hp := un_pos (i + 1)
    have ea : a / un (i + 1) / 2 = a / un i := by rw [Int.ediv_ediv_of_nonneg (Int.le_of_lt hp), Int.mul_comm, ← un_succ i (by omega)]
    have ex : x / un (i + 1) / 2 = x / un i := by rw [Int.ediv_ediv_of_nonneg (Int.le_of_lt hp), Int.mul_comm, ← un_succ i (by omega)]
    by_cases hb : bitI a i = bitI x i
    · refine Evt.ite_pos hb ?_
      rw [wrap64_in _ (by omega) (by omega)]
      refine ih a b x (i + 1) ha hx (by omega) (by omega) h2 (by omega) ?_
      unfold bitI at hb
      omega
    · refine Evt.ite_neg hb (Evt.of fun k => ?_)
      rw [decide_eq_false]
      intro hn
      apply hb
      have key : ∀ j : Nat, i + 1 + j ≤ 32 → a / un (i + 1 + j) = x / un (i + 1 + j) → a / un (i + 1) = x / un (i + 1) := by
        intro j
        induction j with
        | zero => intro _ h; simpa using h
        | succ j ihj =>
          intro hj h
          apply ihj (by omega)
          have hp2 := un_pos (i + 1 + j + 1)
          have e : ∀ z : Int, z / un (i + 1 + j) = z / un (i + 1 + j + 1) / 2 := fun z => by
            rw [Int.ediv_ediv_of_nonneg (Int.le_of_lt hp2), Int.mul_comm, ← un_succ (i + 1 + j) (by omega)]
          rw [e a, e x]
          have h' : a / un (i + 1 + j + 1) = x / un (i + 1 + j + 1) := by
            rw [show i + 1 + (j : Int) + 1 = i + 1 + ((j + 1 : Nat) : Int) by omega]; exact h
          rw [h']
      have := key (b - i - 1).toNat (by omega) (by rw [show i + 1 + (((b - i - 1).toNat : Nat) : Int) = b by omega]; exact hn)
      unfold bitI
      rw [this]
theorem div_in (a b x : Int) (hm : a % un b = 0) : (a / un b = x / un b) ↔ x - x % un b = a := by
  have hp := un_pos b
  have e1 := Int.emod_add_mul_ediv a (un b)
  have e2 := Int.emod_add_mul_ediv x (un b)
  rw [hm] at e1
  constructor
  · intro h; rw [← h] at e2; omega
  · intro h
    have : un b * (x / un b) = un b * (a / un b) := by omega
    exact (Int.eq_of_mul_eq_mul_left (by omega) this).symm
theorem refHas_ev (a b x : Int) (ha : isA a) (hx : isA x) (hm : mayB a b = true) : Evt (fun k => whirligigref01_Has.f k a b x) (inB a b x) := by
  obtain ⟨h0, h1, h2⟩ := (mayB_iff a b).1 hm
  have := refHasLoop_ev b.toNat a b x 0 ha hx (by omega) h0 h1 (by omega) (by
    have : un 0 = 4294967296 := rfl
    rw [this]
    have := ha.1; have := ha.2; have := hx.1; have := hx.2
    omega)
  unfold inB
  rw [show decide (x - x % un b = a) = decide (a / un b = x / un b) from decide_eq_decide.2 (div_in a b x h2).symm]
  exact this
end Go.Proofs.Ytnihacajjpcjeaa.P
namespace Go.Proofs.Ytnihacajjpcjeaa
open Go.RowKit Go.Proofs.Ytnihacajjpcjeaa.P Go.Proofs.YtnihacajjpcjeaaW.PrintWords Go.Proofs.YtnihacajjpcjeaaW.PrintLast Go.Proofs.YtnihacajjpcjeaaW.PrintMore
set_option linter.unusedVariables false
set_option linter.unusedSimpArgs false

theorem bit_adr (a : Int) (i j : Nat) (h : i < j) (hj : j ≤ 32) : bitB (adrA a j) i = bitB a i := by
  unfold bitB adrA
  obtain ⟨q, hq⟩ : ∃ q : Int, q = 2 ^ (32 - j) := ⟨_, rfl⟩
  obtain ⟨c, hc⟩ : ∃ c : Int, c = 2 ^ (j - 1 - i) := ⟨_, rfl⟩
  have hq0 : 0 < q := by rw [hq]; exact Int.pow_pos (by decide)
  have e : (2 : Int) ^ (31 - i) = q * c := by rw [hq, hc, ← Int.pow_add]; congr 1; omega
  have e2 : a - a % q = q * (a / q) := by have := Int.emod_add_mul_ediv a q; omega
  rw [← hq, e, e2, Int.mul_ediv_mul_of_pos _ _ hq0, ← Int.ediv_ediv_of_nonneg (Int.le_of_lt hq0)]
theorem wayA_adr (a : Int) (j : Nat) (hj : j ≤ 32) : wayA (adrA a j) j = wayA a j := by
  have : ∀ i, i ≤ j → wayA (adrA a j) i = wayA a i := by
    intro i
    induction i with
    | zero => intro _; rfl
    | succ i ih => intro h; rw [wayA, wayA, ih (by omega), bit_adr a i j (by omega) hj]
  exact this j (Nat.le_refl _)
theorem may_adr (a : Int) (j : Nat) (hj : j ≤ 32) : mayB (adrA a j) j = true := by
  refine (mayB_iff _ _).2 ⟨by omega, by omega, ?_⟩
  unfold un
  rw [show (32 - (j : Int)).toNat = 32 - j by omega]
  exact adrA_mod a j
theorem isA_adr (a : Int) (j : Nat) (ha : isA a) : isA (adrA a j) := by
  have := adrA_bound a j ha.1 (by have := ha.2; omega)
  have := ha.2
  exact ⟨by omega, by omega⟩
theorem has_adr (a : Int) (j : Nat) (hj : j ≤ 32) (ha : isA a) : Evt (fun k => whirligigref01_Has.f k (adrA a j) j a) true := by
  have h := refHas_ev (adrA a j) j a (isA_adr a j ha) ha (may_adr a j hj)
  have e : inB (adrA a j) j a = true := by
    unfold inB un adrA
    rw [show (32 - (j : Int)).toNat = 32 - j by omega]
    exact decide_eq_true rfl
  rw [e] at h
  exact h
/-- one number of rounds for all lengths -/
theorem has_all (a : Int) (ha : isA a) : ∀ n : Nat, n ≤ 33 → ∃ K, ∀ k, K ≤ k → ∀ j, j < n → whirligigref01_Has.f k (adrA a j) (j : Nat) a = some true := by
  intro n
  induction n with
  | zero => intro _; exact ⟨0, fun k _ j hj => absurd hj (by omega)⟩
  | succ n ih =>
    intro hn
    obtain ⟨K, hK⟩ := ih (by omega)
    obtain ⟨L, hL⟩ := has_adr a n (by omega) ha
    refine ⟨max K L, fun k hk j hj => ?_⟩
    by_cases e : j = n
    · rw [e]; exact hL k (by omega)
    · exact hK k (by omega) j (by omega)
section
variable {V : Type} {m : Way → Option V} {a : Int}
theorem abv_mem : ∀ {i : Nat} {x : S34}, x ∈ abvT m a i → ∃ j, j < i ∧ x = ⟨adrA a j, (j : Int)⟩ := by
  intro i
  induction i with
  | zero => intro x h; simp [abvT] at h
  | succ i ih =>
    intro x h
    cases hm : m (wayA a i) with
    | none => rw [abv_none hm] at h; obtain ⟨j, h1, h2⟩ := ih h; exact ⟨j, by omega, h2⟩
    | some v =>
      rw [abv_some hm] at h
      rcases List.mem_append.1 h with h | h
      · obtain ⟨j, h1, h2⟩ := ih h; exact ⟨j, by omega, h2⟩
      · exact ⟨i, by omega, by simpa using h⟩
theorem abv_sorted : ∀ i : Nat, (abvT m a i).Pairwise fun x y => x.f1 < y.f1 := by
  intro i
  induction i with
  | zero => exact List.Pairwise.nil
  | succ i ih =>
    cases hm : m (wayA a i) with
    | none => rw [abv_none hm]; exact ih
    | some v =>
      rw [abv_some hm]
      refine List.pairwise_append.2 ⟨ih, List.pairwise_singleton _ _, fun x hx y hy => ?_⟩
      obtain ⟨j, h1, h2⟩ := abv_mem hx
      rw [List.mem_singleton.1 hy, h2]
      show (j : Int) < (i : Int)
      omega
theorem bst_abv : ∀ i : Nat, (bstT m a i = none ∧ abvT m a i = []) ∨ ∃ j v u, bstT m a i = some (j, v) ∧ abvT m a i = u ++ [⟨adrA a j, (j : Int)⟩] ∧ m (wayA a j) = some v ∧ j < i := by
  intro i
  induction i with
  | zero => exact .inl ⟨rfl, rfl⟩
  | succ i ih =>
    cases hm : m (wayA a i) with
    | none =>
      rw [abv_none hm, bst_none hm]
      rcases ih with h | ⟨j, v, u, h1, h2, h3, h4⟩
      · exact .inl h
      · exact .inr ⟨j, v, u, h1, h2, h3, by omega⟩
    | some v =>
      rw [abv_some hm, bst_some hm]
      exact .inr ⟨i, v, _, rfl, rfl, hm, by omega⟩
end
end Go.Proofs.Ytnihacajjpcjeaa

/- Prefixes: what the program's and the document's functions come to, in numbers alone. -/
import Derived.Test.YtndcjncamdhbfaaPMay
import Derived.Test.YtndcjncamdhbfaaPx6
import Derived.Test.YtndcjncamdhbfaaPx9
set_option linter.unusedVariables false
set_option linter.unusedSimpArgs false
namespace Go.Proofs.Ytndcjncamdhbfaa.P
open Go.RowKit Go.Proofs.YtndcjncamdhbfaaW.PrintWords Go.Proofs.YtndcjncamdhbfaaW.PrintLast Go.Proofs.YtndcjncamdhbfaaW.PrintMore


/-- does a prefix have an address? -/
def inB (a b x : Int) : Bool := decide (x - x % un b = a)
def hasB (a b x : Int) : Bool := mayB a b && inB a b x
theorem has_is (a b x : Int) (ha : isA a) (hx : isA x) : addr_Has.f a b x = some (hasB a b x) := by
  unfold addr_Has.f hasB
  rw [may_is a b ha, Option.bind_some]
  by_cases h : mayB a b = true
  · obtain ⟨h0, h1, h2⟩ := (mayB_iff a b).1 h
    rw [if_pos h, mask_is b h0 h1, Option.bind_some]
    have := and_mask x (32 - b).toNat hx.1 (by have := hx.2; omega) (by omega)
    unfold un
    rw [this, h]
    unfold inB un
    simp only [Bool.true_and]
    rfl
  · rw [if_neg h]
    simp at h
    rw [h]; rfl
theorem refHasLoop_ev : ∀ (d : Nat) (a b x i : Int), isA a → isA x → 0 ≤ i → i ≤ b → b ≤ 32 → b - i = d → a / un i = x / un i →
    Evt (fun k => whirligigref01_Has.l0 k x i a b) (decide (a / un b = x / un b)) := by
  intro d
  induction d with
  | zero =>
    intro a b x i ha hx h0 h1 h2 hd he
    obtain rfl : i = b := by omega
    refine Evt.step ?_
    simp only [whirligigref01_Has.l0]
    refine Evt.ite_neg (by omega) (Evt.of fun k => ?_)
    rw [decide_eq_true he]
  | succ d ih =>
    intro a b x i ha hx h0 h1 h2 hd he
    refine Evt.step ?_
    simp only [whirligigref01_Has.l0]
    refine Evt.ite_pos (by omega) ?_
    refine Evt.bind (refBit_ev a i ha h0 (by omega)) ?_
    refine Evt.bind (refBit_ev x i hx h0 (by omega)) ?_
    have hp := un_pos (i + 1)
    have ea : a / un (i + 1) / 2 = a / un i := by rw [Int.ediv_ediv_of_nonneg (Int.le_of_lt hp), Int.mul_comm, ← un_succ i (by omega)]
    have ex : x / un (i + 1) / 2 = x / un i := by rw [Int.ediv_ediv_of_nonneg (Int.le_of_lt hp), Int.mul_comm, ← un_succ i (by omega)]
    by_cases hb : bitI a i = bitI x i
    · refine Evt.ite_pos hb ?_
      rw [wrap64_in _ (by omega) (by omega)]
      refine ih a b x (i + 1) ha hx (by omega) (by omega) h2 (by omega) ?_
      unfold bitI at hb
      omega
    · refine Evt.ite_neg hb (Evt.of fun k => ?_)
      rw [decide_eq_false]
      intro hn
      apply hb
      have key : ∀ j : Nat, i + 1 + j ≤ 32 → a / un (i + 1 + j) = x / un (i + 1 + j) → a / un (i + 1) = x / un (i + 1) := by
        intro j
        induction j with
        | zero => intro _ h; simpa using h
        | succ j ihj =>
          intro hj h
          apply ihj (by omega)
          have hp2 := un_pos (i + 1 + j + 1)
          have e : ∀ z : Int, z / un (i + 1 + j) = z / un (i + 1 + j + 1) / 2 := fun z => by
            rw [Int.ediv_ediv_of_nonneg (Int.le_of_lt hp2), Int.mul_comm, ← un_succ (i + 1 + j) (by omega)]
          rw [e a, e x]
          have h' : a / un (i + 1 + j + 1) = x / un (i + 1 + j + 1) := by
            rw [show i + 1 + (j : Int) + 1 = i + 1 + ((j + 1 : Nat) : Int) by omega]; exact h
          rw [h']
      have := key (b - i - 1).toNat (by omega) (by rw [show i + 1 + (((b - i - 1).toNat : Nat) : Int) = b by omega]; exact hn)
      unfold bitI
      rw [this]
theorem div_in (a b x : Int) (hm : a % un b = 0) : (a / un b = x / un b) ↔ x - x % un b = a := by
  have hp := un_pos b
  have e1 := Int.emod_add_mul_ediv a (un b)
  have e2 := Int.emod_add_mul_ediv x (un b)
  rw [hm] at e1
  constructor
  · intro h; rw [← h] at e2; omega
  · intro h
    have : un b * (x / un b) = un b * (a / un b) := by omega
    exact (Int.eq_of_mul_eq_mul_left (by omega) this).symm
theorem refHas_ev (a b x : Int) (ha : isA a) (hx : isA x) (hm : mayB a b = true) : Evt (fun k => whirligigref01_Has.f k a b x) (inB a b x) := by
  obtain ⟨h0, h1, h2⟩ := (mayB_iff a b).1 hm
  have := refHasLoop_ev b.toNat a b x 0 ha hx (by omega) h0 h1 (by omega) (by
    have : un 0 = 4294967296 := rfl
    rw [this]
    have := ha.1; have := ha.2; have := hx.1; have := hx.2
    omega)
  unfold inB
  rw [show decide (x - x % un b = a) = decide (a / un b = x / un b) from decide_eq_decide.2 (div_in a b x h2).symm]
  exact this
/-- does a prefix contain another one? -/
def contB (a b c d : Int) : Bool := mayB c d && (decide (b ≤ d) && hasB a b c)
theorem contains_is (a b c d : Int) (ha : isA a) (hc : isA c) : addr_Contains.f a b c d = some (contB a b c d) := by
  unfold addr_Contains.f contB
  rw [may_is c d hc, Option.bind_some]
  by_cases h : mayB c d = true
  · rw [if_pos h, h]
    by_cases h1 : b ≤ d
    · rw [if_pos h1, has_is a b c ha hc, decide_eq_true h1]; rfl
    · rw [if_neg h1, decide_eq_false h1]; rfl
  · rw [if_neg h]; simp at h; rw [h]; rfl
theorem refContains_ev (a b c d : Int) (ha : isA a) (hc : isA c) : Evt (fun k => whirligigref01_Contains.f k a b c d) (contB a b c d) := by
  unfold whirligigref01_Contains.f contB
  refine Evt.bind (refMay_ev a b ha) ?_
  by_cases h : mayB a b = true
  · refine Evt.ite_pos h (Evt.bind (refMay_ev c d hc) ?_)
    by_cases h1 : mayB c d = true
    · refine Evt.ite_pos h1 ?_
      by_cases h2 : b ≤ d
      · refine Evt.ite_pos h2 (Evt.bind (refHas_ev a b c ha hc h) (Evt.of fun k => ?_))
        rw [h1, decide_eq_true h2]; unfold hasB; rw [h]; rfl
      · refine Evt.ite_neg h2 (Evt.of fun k => ?_)
        rw [h1, decide_eq_false h2]; rfl
    · refine Evt.ite_neg h1 (Evt.of fun k => ?_)
      simp at h1; rw [h1]; rfl
  · refine Evt.ite_neg h (Evt.of fun k => ?_)
    simp at h
    unfold hasB; rw [h]; simp
end Go.Proofs.Ytndcjncamdhbfaa.P

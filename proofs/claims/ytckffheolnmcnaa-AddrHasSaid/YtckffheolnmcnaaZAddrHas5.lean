/- Part of the proof of RowAddrHas: what it asks of functions, words and plain facts (put together by this session's own program, wip/tools/shake.py). -/
import Derived.Test.YtckffheolnmcnaaZAddrHas0
import Derived.Test.YtckffheolnmcnaaZAddrHas1
import Derived.Test.YtckffheolnmcnaaZAddrHas2
import Derived.Test.YtckffheolnmcnaaZAddrHas3
import Derived.Test.YtckffheolnmcnaaZAddrHas4
section
set_option linter.unusedVariables false
set_option linter.unusedSimpArgs false
namespace Go.Proofs.Ytckffheolnmcnaa.P
open Go.RowKit Go.Proofs.YtckffheolnmcnaaW.PrintWords Go.Proofs.YtckffheolnmcnaaW.PrintLast Go.Proofs.YtckffheolnmcnaaW.PrintMore

/-- how many addresses a prefix of so many bits has -/
def un (b : Int) : Int := 2 ^ (32 - b).toNat
theorem un_pos (b : Int) : 0 < un b := by
  unfold un
  have := Nat.two_pow_pos (32 - b).toNat
  have h2 : (0 : Int) < (((2 : Nat) ^ (32 - b).toNat : Nat) : Int) := by exact_mod_cast this
  simpa using h2
theorem un_succ (b : Int) (h : b < 32) : un b = 2 * un (b + 1) := by
  unfold un
  rw [show (32 - b).toNat = (32 - (b + 1)).toNat + 1 by omega, Int.pow_succ]; omega
/-- an address -/
def isA (a : Int) : Prop := 0 ≤ a ∧ a ≤ 4294967295
/-- may a prefix be? -/
def mayB (a b : Int) : Bool := decide (0 ≤ b) && (decide (b ≤ 32) && decide (a % un b = 0))
theorem mayB_iff (a b : Int) : mayB a b = true ↔ 0 ≤ b ∧ b ≤ 32 ∧ a % un b = 0 := by
  unfold mayB; simp
theorem mask_is (b : Int) (h0 : 0 ≤ b) (h1 : b ≤ 32) : addr_mask.f b = some (4294967296 - un b) := by
  unfold addr_mask.f
  by_cases h : b = 0
  · subst h; rfl
  · rw [if_neg h, wrap64_in _ (by omega) (by omega), if_pos (by omega)]
    have := shl_all (32 - b).toNat (by omega)
    rw [show (((32 - b).toNat : Nat) : Int) = 32 - b by omega] at this
    rw [this]; rfl
theorem may_is (a b : Int) (ha : isA a) : addr_May.f a b = some (mayB a b) := by
  unfold addr_May.f mayB
  by_cases h0 : 0 ≤ b
  · rw [if_pos h0]
    by_cases h1 : b ≤ 32
    · rw [if_pos h1, mask_is b h0 h1, Option.bind_some]
      have := andNot_mask a (32 - b).toNat ha.1 (by have := ha.2; omega) (by omega)
      unfold un
      rw [this]
      simp [h0, h1]
      rfl
    · rw [if_neg h1]; simp [h0, h1]
  · rw [if_neg h0]; simp [h0]
/-- the bit of an address at a place -/
def bitI (a i : Int) : Int := a / un (i + 1) % 2
theorem bit_ev : ∀ (d : Nat) (a i : Int), 0 ≤ a → a ≤ 4294967295 → 0 ≤ i → i ≤ 31 → 31 - i = d → Evt (fun k => whirligigref01_Bit.l0 k a i) (bitI a i) := by
  intro d
  induction d with
  | zero =>
    intro a i h0 h1 h2 h3 hd
    obtain rfl : i = 31 := by omega
    refine Evt.step ?_
    simp only [whirligigref01_Bit.l0]
    refine Evt.ite_neg (by omega) (Evt.of fun k => ?_)
    unfold bitI un
    rw [Int.tmod_eq_emod_of_nonneg h0]
    simp
  | succ d ih =>
    intro a i h0 h1 h2 h3 hd
    refine Evt.step ?_
    simp only [whirligigref01_Bit.l0]
    refine Evt.ite_pos (by omega) ?_
    rw [Int.tdiv_eq_ediv_of_nonneg h0, wrap64_in _ (by omega) (by omega), Int.emod_eq_of_lt (by omega) (by omega)]
    have := ih (a / 2) (i + 1) (by omega) (by omega) (by omega) (by omega) (by omega)
    have e : bitI (a / 2) (i + 1) = bitI a i := by
      unfold bitI
      rw [un_succ (i + 1) (by omega), Int.ediv_ediv_of_nonneg (by decide)]
    rw [e] at this
    exact this
theorem refBit_ev (a i : Int) (ha : isA a) (h2 : 0 ≤ i) (h3 : i ≤ 31) : Evt (fun k => whirligigref01_Bit.f k a i) (bitI a i) :=
  bit_ev (31 - i).toNat a i ha.1 ha.2 h2 h3 (by omega)
theorem mod_un (a i : Int) (h : 0 ≤ a) (h1 : i ≤ 31) : a % un i = a % un (i + 1) + un (i + 1) * bitI a i := by
  have hp := un_pos (i + 1)
  rw [un_succ i (by omega)]
  unfold bitI
  have e1 := Int.emod_add_mul_ediv a (un (i + 1))
  have e2 := Int.emod_add_mul_ediv a (2 * un (i + 1))
  have e3 := Int.emod_add_mul_ediv (a / un (i + 1)) 2
  have e4 : a / un (i + 1) / 2 = a / (2 * un (i + 1)) := by rw [Int.ediv_ediv_of_nonneg (Int.le_of_lt hp), Int.mul_comm]
  rw [e4] at e3
  generalize a / (2 * un (i + 1)) = q at *
  generalize a / un (i + 1) % 2 = s at *
  generalize a / un (i + 1) = p at *
  generalize un (i + 1) = u at *
  have e5 : u * p = u * s + 2 * u * q := by
    rw [← e3, Int.mul_add, ← Int.mul_assoc, Int.mul_comm u 2]
  omega
theorem refMayLoop_ev : ∀ (d : Nat) (a i b : Int), isA a → 0 ≤ i → i ≤ 32 → 32 - i = d → Evt (fun k => whirligigref01_May.l0 k i a b) (decide (a % un i = 0)) := by
  intro d
  induction d with
  | zero =>
    intro a i b ha h0 h1 hd
    obtain rfl : i = 32 := by omega
    refine Evt.step ?_
    simp only [whirligigref01_May.l0]
    refine Evt.ite_neg (by omega) (Evt.of fun k => ?_)
    have : a % un 32 = 0 := by show a % 1 = 0; omega
    rw [this]; rfl
  | succ d ih =>
    intro a i b ha h0 h1 hd
    refine Evt.step ?_
    simp only [whirligigref01_May.l0]
    refine Evt.ite_pos (by omega) ?_
    refine Evt.bind (refBit_ev a i ha h0 (by omega)) ?_
    have hm := mod_un a i ha.1 (by omega)
    have hp := un_pos (i + 1)
    have hr : 0 ≤ a % un (i + 1) := Int.emod_nonneg _ (by omega)
    by_cases hb : bitI a i = 0
    · refine Evt.ite_pos hb ?_
      rw [wrap64_in _ (by omega) (by omega)]
      have := ih a (i + 1) b ha (by omega) (by omega) (by omega)
      rw [hb, Int.mul_zero, Int.add_zero] at hm
      rw [hm]; exact this
    · refine Evt.ite_neg hb (Evt.of fun k => ?_)
      have hb1 : bitI a i = 1 := by unfold bitI at *; omega
      rw [hb1, Int.mul_one] at hm
      rw [decide_eq_false (by omega)]
theorem refMay_ev (a b : Int) (ha : isA a) : Evt (fun k => whirligigref01_May.f k a b) (mayB a b) := by
  unfold whirligigref01_May.f mayB
  by_cases h0 : b < 0
  · refine Evt.ite_pos h0 (Evt.step ?_)
    simp only [whirligigref01_May.j0]
    refine Evt.ite_pos (by simp) (Evt.of fun k => ?_)
    rw [decide_eq_false (by omega : ¬ 0 ≤ b)]; rfl
  · refine Evt.ite_neg h0 (Evt.step ?_)
    simp only [whirligigref01_May.j0]
    by_cases h1 : b > 32
    · refine Evt.ite_pos (decide_eq_true h1) (Evt.of fun k => ?_)
      rw [decide_eq_false (by omega : ¬ b ≤ 32)]; simp
    · refine Evt.ite_neg (by simpa using h1) ?_
      have := refMayLoop_ev (32 - b).toNat a b b ha (by omega) (by omega) (by omega)
      rw [decide_eq_true (by omega : 0 ≤ b), decide_eq_true (by omega : b ≤ 32)]
      exact this
/-- does a prefix have an address? -/
def inB (a b x : Int) : Bool := decide (x - x % un b = a)
def hasB (a b x : Int) : Bool := mayB a b && inB a b x
theorem has_is (a b x : Int) (ha : isA a) (hx : isA x) : addr_Has.f a b x = some (hasB a b x) := by
  unfold addr_Has.f hasB
  rw [may_is a b ha, Option.bind_some]
  by_cases h : mayB a b = true
  · obtain ⟨h0, h1, h2⟩ := (mayB_iff a b).1 h
    rw [if_pos h, mask_is b h0 h1, Option.bind_some]
    have := and_mask x (32 - b).toNat hx.1 (by have := hx.2; omega) (by omega)
    unfold un
    rw [this, h]
    unfold inB un
    simp only [Bool.true_and]
    rfl
  · rw [if_neg h]
    simp at h
    rw [h]; rfl
theorem refHasLoop_ev : ∀ (d : Nat) (a b x i : Int), isA a → isA x → 0 ≤ i → i ≤ b → b ≤ 32 → b - i = d → a / un i = x / un i →
    Evt (fun k => whirligigref01_Has.l0 k x i a b) (decide (a / un b = x / un b)) := by
  intro d
  induction d with
  | zero =>
    intro a b x i ha hx h0 h1 h2 hd he
    obtain rfl : i = b := by omega
    refine Evt.step ?_
    simp only [whirligigref01_Has.l0]
    refine Evt.ite_neg (by omega) (Evt.of fun k => ?_)
    rw [decide_eq_true he]
  | succ d ih =>
    intro a b x i ha hx h0 h1 h2 hd he
    refine Evt.step ?_
    simp only [whirligigref01_Has.l0]
    refine Evt.ite_pos (by omega) ?_
    refine Evt.bind (refBit_ev a i ha h0 (by omega)) ?_
    refine Evt.bind (refBit_ev x i hx h0 (by omega)) ?_
    have hp := un_pos (i + 1)
    have ea : a / un (i + 1) / 2 = a / un i := by rw [Int.ediv_ediv_of_nonneg (Int.le_of_lt hp), Int.mul_comm, ← un_succ i (by omega)]
    have ex : x / un (i + 1) / 2 = x / un i := by rw [Int.ediv_ediv_of_nonneg (Int.le_of_lt hp), Int.mul_comm, ← un_succ i (by omega)]
    by_cases hb : bitI a i = bitI x i
    · refine Evt.ite_pos hb ?_
      rw [wrap64_in _ (by omega) (by omega)]
      refine ih a b x (i + 1) ha hx (by omega) (by omega) h2 (by omega) ?_
      unfold bitI at hb
      omega
    · refine Evt.ite_neg hb (Evt.of fun k => ?_)
      rw [decide_eq_false]
      intro hn
      apply hb
      have key : ∀ j : Nat, i + 1 + j ≤ 32 → a / un (i + 1 + j) = x / un (i + 1 + j) → a / un (i + 1) = x / un (i + 1) := by
        intro j
        induction j with
        | zero => intro _ h; simpa using h
        | succ j ihj =>
          intro hj h
          apply ihj (by omega)
          have hp2 := un_pos (i + 1 + j + 1)
          have e : ∀ z : Int, z / un (i + 1 + j) = z / un (i + 1 + j + 1) / 2 := fun z => by
            rw [Int.ediv_ediv_of_nonneg (Int.le_of_lt hp2), Int.mul_comm, ← un_succ (i + 1 + j) (by omega)]
          rw [e a, e x]
          have h' : a / un (i + 1 + j + 1) = x / un (i + 1 + j + 1) := by
            rw [show i + 1 + (j : Int) + 1 = i + 1 + ((j + 1 : Nat) : Int) by omega]; exact h
          rw [h']
      have := key (b - i - 1).toNat (by omega) (by rw [show i + 1 + (((b - i - 1).toNat : Nat) : Int) = b by omega]; exact hn)
      unfold bitI
      rw [this]
theorem div_in (a b x : Int) (hm : a % un b = 0) : (a / un b = x / un b) ↔ x - x % un b = a := by
  have hp := un_pos b
  have e1 := Int.emod_add_mul_ediv a (un b)
  have e2 := Int.emod_add_mul_ediv x (un b)
  rw [hm] at e1
  constructor
  · intro h; rw [← h] at e2; omega
  · intro h
    have : un b * (x / un b) = un b * (a / un b) := by omega
    exact (Int.eq_of_mul_eq_mul_left (by omega) this).symm
theorem refHas_ev (a b x : Int) (ha : isA a) (hx : isA x) (hm : mayB a b = true) : Evt (fun k => whirligigref01_Has.f k a b x) (inB a b x) := by
  obtain ⟨h0, h1, h2⟩ := (mayB_iff a b).1 hm
  have := refHasLoop_ev b.toNat a b x 0 ha hx (by omega) h0 h1 (by omega) (by
    have : un 0 = 4294967296 := rfl
    rw [this]
    have := ha.1; have := ha.2; have := hx.1; have := hx.2
    omega)
  unfold inB
  rw [show decide (x - x % un b = a) = decide (a / un b = x / un b) from decide_eq_decide.2 (div_in a b x h2).symm]
  exact this
/-- does a prefix contain another one? -/
def contB (a b c d : Int) : Bool := mayB c d && (decide (b ≤ d) && hasB a b c)
theorem contains_is (a b c d : Int) (ha : isA a) (hc : isA c) : addr_Contains.f a b c d = some (contB a b c d) := by
  unfold addr_Contains.f contB
  rw [may_is c d hc, Option.bind_some]
  by_cases h : mayB c d = true
  · rw [if_pos h, h]
    by_cases h1 : b ≤ d
    · rw [if_pos h1, has_is a b c ha hc, decide_eq_true h1]; rfl
    · rw [if_neg h1, decide_eq_false h1]; rfl
  · rw [if_neg h]; simp at h; rw [h]; rfl
theorem refContains_ev (a b c d : Int) (ha : isA a) (hc : isA c) : Evt (fun k => whirligigref01_Contains.f k a b c d) (contB a b c d) := by
  unfold whirligigref01_Contains.f contB
  refine Evt.bind (refMay_ev a b ha) ?_
  by_cases h : mayB a b = true
  · refine Evt.ite_pos h (Evt.bind (refMay_ev c d hc) ?_)
    by_cases h1 : mayB c d = true
    · refine Evt.ite_pos h1 ?_
      by_cases h2 : b ≤ d
      · refine Evt.ite_pos h2 (Evt.bind (refHas_ev a b c ha hc h) (Evt.of fun k => ?_))
        rw [h1, decide_eq_true h2]; unfold hasB; rw [h]; rfl
      · refine Evt.ite_neg h2 (Evt.of fun k => ?_)
        rw [h1, decide_eq_false h2]; rfl
    · refine Evt.ite_neg h1 (Evt.of fun k => ?_)
      simp at h1; rw [h1]; rfl
  · refine Evt.ite_neg h (Evt.of fun k => ?_)
    simp at h
    unfold hasB; rw [h]; simp
end Go.Proofs.Ytckffheolnmcnaa.P

end
section
set_option linter.unusedVariables false
set_option linter.unusedSimpArgs false
namespace Go.Proofs.Ytckffheolnmcnaa.P
open Go.RowKit Go.Proofs.YtckffheolnmcnaaW.PrintWords Go.Proofs.YtckffheolnmcnaaW.PrintLast Go.Proofs.YtckffheolnmcnaaW.PrintMore

theorem sort_two : sortP [(⟨167772160, 9⟩ : S30), ⟨176160768, 9⟩] = [(⟨167772160, 9⟩ : S30), ⟨176160768, 9⟩] := by
  unfold sortP
  apply List.mergeSort_of_pairwise
  decide
theorem lives_ev : Evt (fun k => whirligiglaw01_lives.f k) true := by
  refine Evt.of_mono (K := 12) (fun k => whirligiglaw01_lives.mono k) ?_
  unfold whirligiglaw01_lives.f addr_Plain.f addr_plain.f
  rw [sort_two]
  decide +kernel
/-- the beginning of a prefix of v bits -/
def flo (a v : Int) : Int := a - a % un v
/-- what stands above two -/
def isTop (a b c d u : Int) : Prop := 0 ≤ u ∧ u ≤ b ∧ u ≤ d ∧ flo a u = flo c u ∧ ∀ v, u < v → v ≤ b → v ≤ d → flo a v ≠ flo c v
theorem isTop.symm {a b c d u : Int} (h : isTop a b c d u) : isTop c d a b u := ⟨h.1, h.2.2.1, h.2.1, h.2.2.2.1.symm, fun v h1 h2 h3 e => h.2.2.2.2 v h1 h3 h2 e.symm⟩
theorem top_le (a b : Int) (ha : isA a) (hb : mayB a b = true) : a + un b ≤ 4294967296 := by
  obtain ⟨b0, b1, b2⟩ := (mayB_iff a b).1 hb
  have h6 : (4294967296 : Int) = un b * 2 ^ b.toNat := by
    unfold un
    rw [← Int.pow_add, show (32 - b).toNat + b.toNat = 32 by omega]; rfl
  have h7 : un b ∣ 4294967296 - a := Int.dvd_sub ⟨_, h6⟩ (Int.dvd_of_emod_eq_zero b2)
  have := Int.le_of_dvd (by have := ha.2; omega) h7
  omega
theorem before_is (a b c d : Int) (ha : isA a) (hc : isA c) : addr_Before.f a b c d = some (mayB a b && (mayB c d && decide (a < c ∨ a = c ∧ b < d))) := by
  unfold addr_Before.f addr_before.f
  rw [may_is a b ha, Option.bind_some]
  by_cases h : mayB a b = true
  · rw [if_pos h, h, may_is c d hc, Option.bind_some]
    by_cases g : mayB c d = true
    · rw [if_pos g, g]
      by_cases e : a < c
      · rw [if_pos e]; simp [e]
      · rw [if_neg e]
        by_cases e2 : a = c
        · rw [if_pos e2]; simp [e, e2]
        · rw [if_neg e2]; simp [e, e2]
    · rw [if_neg g]; simp at g; rw [g]; rfl
  · rw [if_neg h]; simp at h; rw [h]; rfl
end Go.Proofs.Ytckffheolnmcnaa.P

end
section
namespace Go.Proofs.Ytckffheolnmcnaa.Pure
open Go.RowKit Go.Proofs.Ytckffheolnmcnaa.P Go.Proofs.YtckffheolnmcnaaW.PrintWords Go.Proofs.YtckffheolnmcnaaW.PrintLast Go.Proofs.YtckffheolnmcnaaW.PrintMore
set_option linter.unusedVariables false
set_option linter.unusedSimpArgs false

theorem xor_all (n : Nat) (hn : n ≤ 32) : bits .xor .u32 4294967295 (4294967296 - 2 ^ n) = 2 ^ n - 1 := by
  have : ∀ n : Fin 33, bits .xor .u32 4294967295 (4294967296 - 2 ^ n.val) = 2 ^ n.val - 1 := by decide +kernel
  exact this ⟨n, by omega⟩
theorem last_is (a b : Int) (ha : isA a) : addr_Last.f a b = some (if mayB a b = true then a + (un b - 1) else 0) := by
  unfold addr_Last.f
  rw [may_is a b ha, Option.bind_some]
  by_cases h : mayB a b = true
  · obtain ⟨b0, b1, b2⟩ := (mayB_iff a b).1 h
    have hp := un_pos b
    rw [if_pos h, if_pos h, mask_is b b0 b1, Option.bind_some]
    have e1 : bits .xor .u32 4294967295 (4294967296 - un b) = un b - 1 := xor_all (32 - b).toNat (by omega)
    have e2 := or_join a (un b - 1) (32 - b).toNat (by omega) ha.1 b2 (by have := ha.2; omega) (by omega) (by show un b - 1 < un b; omega)
    rw [e1, e2]
  · rw [if_neg h, if_neg h]
theorem refLastLoop_ev (a b : Int) (ha : isA a) (hb : mayB a b = true) : ∀ (n : Nat) (i : Int), i = b - 1 + n → i ≤ 31 → Evt (fun k => whirligigref01_last.l0 k (a + un (i + 1) - 1) (un (i + 1) % 4294967296) i a b) (a + (un b - 1)) := by
  obtain ⟨b0, b1, b2⟩ := (mayB_iff a b).1 hb
  intro n
  induction n with
  | zero =>
    intro i hi h1
    refine Evt.step ?_
    simp only [whirligigref01_last.l0]
    refine Evt.ite_neg (by omega) (Evt.of fun k => ?_)
    rw [show i + 1 = b by omega, show a + un b - 1 = a + (un b - 1) by omega]
  | succ n ih =>
    intro i hi h1
    have := ih (i - 1) (by omega) (by omega)
    refine Evt.step ?_
    simp only [whirligigref01_last.l0]
    refine Evt.ite_pos (by omega) ?_
    have hp := un_pos (i + 1)
    have hu := un_succ i (by omega)
    have hle := top_le a b ha hb
    have hub : ∀ (m : Nat) (j : Int), j = b + m → j ≤ 32 → un j ≤ un b := by
      intro m
      induction m with
      | zero => intro j hj _; rw [hj]; simp
      | succ m ihm =>
        intro j hj hj2
        have h3 := ihm (j - 1) (by omega) (by omega)
        have h4 := un_succ (j - 1) (by omega)
        rw [show j - 1 + 1 = j by omega] at h4
        have := un_pos j
        omega
    have h5 := hub n i (by omega) (by omega)
    have ha0 := ha.1
    rw [show i - 1 + 1 = i by omega] at this
    rw [wrap64_in _ (by omega) (by omega), Int.emod_eq_of_lt (a := un (i + 1)) (by omega) (by omega), Int.emod_eq_of_lt (a := a + un (i + 1) - 1 + un (i + 1)) (by omega) (by omega)]
    rw [show a + un (i + 1) - 1 + un (i + 1) = a + un i - 1 by omega, show un (i + 1) * 2 = un i by omega]
    exact this
theorem refLast_ev (a b : Int) (ha : isA a) : Evt (fun k => whirligigref01_Last.f k a b) (if mayB a b = true then a + (un b - 1) else 0) := by
  unfold whirligigref01_Last.f
  refine Evt.bind (refMay_ev a b ha) ?_
  by_cases h : mayB a b = true
  · obtain ⟨b0, b1, b2⟩ := (mayB_iff a b).1 h
    rw [if_pos h]
    refine Evt.ite_pos h (Evt.bind ?_ (Evt.of fun k => rfl))
    have := refLastLoop_ev a b ha h (32 - b).toNat 31 (by omega) (by omega)
    have e : un (31 + 1) = 1 := rfl
    rw [e, show a + 1 - 1 = a by omega] at this
    exact this
  · rw [if_neg h]
    exact Evt.ite_neg h (Evt.of fun k => rfl)
theorem AddrHas (x0 : S30) (x1 : S30) (x2 : Int) (ok_0 : (ok30) x0) (ok_1 : (ok30) x1) (ok_2 : (okI .u32) x2) : ∃ k, Go.Proofs.Ytckffheolnmcnaa.P.whirligiglaw01_AddrHas.f k x0.f0 x0.f1 x1.f0 x1.f1 x2 = some true := by
  obtain ⟨a, b⟩ := x0
  obtain ⟨c, d⟩ := x1
  have ha : isA a := okI_u32 ok_0.1
  have hc : isA c := okI_u32 ok_1.1
  have hz : isA x2 := okI_u32 ok_2
  show ∃ k, Go.Proofs.Ytckffheolnmcnaa.P.whirligiglaw01_AddrHas.f k a b c d x2 = some true
  refine Evt.ex ?_
  have hL : Evt (fun k => (whirligiglaw01_lives.f k).bind fun t => some t) true := Evt.bind lives_ev (Evt.pure _)
  have hLast : Evt (fun k => (addr_Last.f a b).bind fun t => (whirligigref01_Last.f k a b).bind fun t2 => if t = t2 then ((whirligiglaw01_lives.f k).bind fun t => some t) else some false) true :=
    Evt.bindc (last_is a b ha) (Evt.bind (refLast_ev a b ha) (Evt.ite_pos rfl hL))
  have j2 : ∀ x8 : Bool, x8 = (mayB a b && mayB c d) → Evt (fun k => whirligiglaw01_AddrHas.j2 k x8 false a b c d) true := by
    intro x8 h8
    refine Evt.step ?_
    simp only [whirligiglaw01_AddrHas.j2]
    refine Evt.ite_neg (by decide) (Evt.bindc (before_is a b c d ha hc) ?_)
    by_cases h : mayB a b = true ∧ mayB c d = true
    · have e8 : x8 = true := by rw [h8, h.1, h.2]; rfl
      have eb : whirligigref01_Before.f a b c d = some (decide (a < c ∨ a = c ∧ b < d)) := by
        unfold whirligigref01_Before.f
        by_cases e : a = c
        · rw [if_pos e]; simp [e]
        · rw [if_neg e]; simp [e]
      refine Evt.ite_pos e8 (Evt.bindc eb (Evt.ite_pos ?_ hLast))
      rw [h.1, h.2]; simp
    · have e8 : (mayB a b && mayB c d) = false := by
        cases h1 : mayB a b <;> cases h2 : mayB c d <;> simp [h1, h2] at h ⊢
      refine Evt.ite_neg (by rw [h8, e8]; decide) (Evt.ite_pos ?_ hLast)
      rw [← Bool.and_assoc, e8]; rfl
  have hMeets : addr_Meets.f a b c d = some (contB a b c d || contB c d a b) := by
    unfold addr_Meets.f
    rw [contains_is a b c d ha hc, Option.bind_some]
    by_cases h : contB a b c d = true
    · rw [if_pos h, h]; rfl
    · rw [if_neg h, contains_is c d a b hc ha, Option.bind_some]
      simp at h; rw [h]; rfl
  have j1 : ∀ x8 : Bool, x8 = (mayB a b && mayB c d) → Evt (fun k => whirligiglaw01_AddrHas.j1 k x2 (mayB a b) x8 (contB a b c d || contB c d a b) a b c d) true := by
    intro x8 h8
    refine Evt.step ?_
    simp only [whirligiglaw01_AddrHas.j1]
    refine Evt.bindc (has_is a b x2 ha hz) ?_
    have hTail : Evt (fun k => (addr_Contains.f a b c d).bind fun t => (whirligigref01_Contains.f k a b c d).bind fun t2 => if (t != t2) = true then whirligiglaw01_AddrHas.j2 k x8 true a b c d else (addr_Meets.f a b c d).bind fun t3 => whirligiglaw01_AddrHas.j2 k x8 (t3 != (contB a b c d || contB c d a b)) a b c d) true := by
      refine Evt.bindc (contains_is a b c d ha hc) (Evt.bind (refContains_ev a b c d ha hc) (Evt.ite_neg (by simp) (Evt.bindc hMeets ?_)))
      rw [show ((contB a b c d || contB c d a b) != (contB a b c d || contB c d a b)) = false by simp]
      exact j2 x8 h8
    by_cases h : mayB a b = true
    · refine Evt.ite_pos h (Evt.bind (refHas_ev a b x2 ha hz h) (Evt.ite_neg ?_ hTail))
      unfold hasB; rw [h]; simp
    · refine Evt.ite_neg h (Evt.ite_neg ?_ hTail)
      unfold hasB; simp at h; rw [h]; simp
  have j0 : ∀ x8 : Bool, x8 = (mayB a b && mayB c d) → Evt (fun k => whirligiglaw01_AddrHas.j0 k x2 (mayB a b) x8 a b c d) true := by
    intro x8 h8
    refine Evt.step ?_
    simp only [whirligiglaw01_AddrHas.j0]
    refine Evt.bind (refContains_ev a b c d ha hc) ?_
    have := j1 x8 h8
    by_cases h : contB a b c d = true
    · rw [h, Bool.true_or] at this
      exact Evt.ite_pos h this
    · have h' : contB a b c d = false := by simpa using h
      rw [h', Bool.false_or] at this
      exact Evt.ite_neg h (Evt.bind (refContains_ev c d a b hc ha) this)
  unfold whirligiglaw01_AddrHas.f
  refine Evt.bind (refMay_ev a b ha) ?_
  by_cases h : mayB a b = true
  · exact Evt.ite_pos h (Evt.bind (refMay_ev c d hc) (j0 _ (by rw [h]; rfl)))
  · exact Evt.ite_neg h (j0 _ (by simp at h; rw [h]; rfl))
end Go.Proofs.Ytckffheolnmcnaa.Pure

end

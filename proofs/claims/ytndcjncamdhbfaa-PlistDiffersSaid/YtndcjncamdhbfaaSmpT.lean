/- What plist.samples makes of rules that may be. -/
import Derived.Test.YtndcjncamdhbfaaCompactP
import Derived.Test.YtndcjncamdhbfaaPx0
import Derived.Test.YtndcjncamdhbfaaPx13
namespace Go.Proofs.Ytndcjncamdhbfaa.P
open Go.RowKit Go.Proofs.YtndcjncamdhbfaaW.PrintWords Go.Proofs.YtndcjncamdhbfaaW.PrintLast Go.Proofs.YtndcjncamdhbfaaW.PrintMore
set_option linter.unusedVariables false
set_option linter.unusedSimpArgs false

theorem xor_allS (n : Nat) (hn : n ≤ 32) : bits .xor .u32 4294967295 (4294967296 - 2 ^ n) = 2 ^ n - 1 := by
  have : ∀ n : Fin 33, bits .xor .u32 4294967295 (4294967296 - 2 ^ n.val) = 2 ^ n.val - 1 := by decide +kernel
  exact this ⟨n, by omega⟩
theorem lastS_is (a b : Int) (ha : isA a) (hb : mayB a b = true) : addr_Last.f a b = some (a + (un b - 1)) := by
  unfold addr_Last.f
  rw [may_is a b ha, Option.bind_some]
  obtain ⟨b0, b1, b2⟩ := (mayB_iff a b).1 hb
  have hp := un_pos b
  rw [if_pos hb, mask_is b b0 b1, Option.bind_some]
  have e1 : bits .xor .u32 4294967295 (4294967296 - un b) = un b - 1 := xor_allS (32 - b).toNat (by omega)
  have e2 := or_join a (un b - 1) (32 - b).toNat (by omega) ha.1 b2 (by have := ha.2; omega) (by omega) (by show un b - 1 < un b; omega)
  rw [e1, e2]
/-- the samples of one rule -/
def smp1 (bits : Int) (r : S26) : List S24 := ⟨floS r.f0.f0 bits, bits⟩ :: (if r.f0.f0 + (un r.f0.f1 - 1) = 4294967295 then [] else [⟨floS (r.f0.f0 + un r.f0.f1) bits, bits⟩])
def smp (l : List S26) (bits : Int) : List S24 := ⟨floS 0 bits, bits⟩ :: l.flatMap (smp1 bits)
def okR (r : S26) : Bool := decide (0 ≤ r.f0.f0) && (decide (r.f0.f0 ≤ 4294967295) && mayB r.f0.f0 r.f0.f1)
theorem okR_iff (r : S26) : okR r = true ↔ isA r.f0.f0 ∧ mayB r.f0.f0 r.f0.f1 = true := by
  unfold okR isA; simp [and_assoc]
theorem flo_ok (a bits : Int) (ha : isA a) (b0 : 0 ≤ bits) (b1 : bits ≤ 32) : okP ⟨floS a bits, bits⟩ := by
  refine ⟨floS_isA a bits ha, (mayB_iff _ _).2 ⟨b0, b1, ?_⟩⟩
  show (a - a % un bits) % un bits = 0
  have hp := un_pos bits
  rw [Int.sub_emod, Int.emod_emod, Int.sub_self]; rfl
theorem last_isA (r : S26) (h : okR r = true) : isA (r.f0.f0 + (un r.f0.f1 - 1)) := by
  obtain ⟨ha, hm⟩ := (okR_iff r).1 h
  obtain ⟨b0, b1, b2⟩ := (mayB_iff _ _).1 hm
  have hp := un_pos r.f0.f1
  have hu : un r.f0.f1 = ((2 ^ (32 - r.f0.f1).toNat : Nat) : Int) := by unfold un; simp
  obtain ⟨q, hq⟩ : ∃ q, r.f0.f0 = un r.f0.f1 * q := ⟨r.f0.f0 / un r.f0.f1, by have := Int.emod_add_mul_ediv r.f0.f0 (un r.f0.f1); omega⟩
  have h32 : un r.f0.f1 * 2 ^ r.f0.f1.toNat = 4294967296 := by
    unfold un
    rw [← Int.pow_add, show (32 - r.f0.f1).toNat + r.f0.f1.toNat = 32 by omega]; rfl
  refine ⟨by have := ha.1; omega, ?_⟩
  have h1 : un r.f0.f1 * q < un r.f0.f1 * 2 ^ r.f0.f1.toNat := by rw [h32, ← hq]; have := ha.2; omega
  have h2 : q < 2 ^ r.f0.f1.toNat := Int.lt_of_mul_lt_mul_left h1 (by omega)
  have h3 : un r.f0.f1 * (q + 1) ≤ un r.f0.f1 * 2 ^ r.f0.f1.toNat := Int.mul_le_mul_of_nonneg_left (by omega) (by omega)
  rw [h32, Int.mul_add, ← hq] at h3
  omega
theorem smp1_ok (bits : Int) (b0 : 0 ≤ bits) (b1 : bits ≤ 32) (r : S26) (h : okR r = true) : ∀ x ∈ smp1 bits r, okP x := by
  intro x hx
  have h1 := last_isA r h
  unfold smp1 at hx
  rcases List.mem_cons.1 hx with rfl | hx
  · exact flo_ok _ _ ((okR_iff r).1 h).1 b0 b1
  · split at hx
    · cases hx
    · rename_i hn
      rcases List.mem_singleton.1 hx with rfl
      refine flo_ok _ _ ?_ b0 b1
      have := h1.1; have := h1.2
      have := ((okR_iff r).1 h).1.1
      have := un_pos r.f0.f1
      constructor <;> omega
theorem smp_ok (l : List S26) (bits : Int) (b0 : 0 ≤ bits) (b1 : bits ≤ 32) (h : l.all okR = true) : ∀ x ∈ smp l bits, okP x := by
  intro x hx
  rcases List.mem_cons.1 hx with rfl | hx
  · exact flo_ok _ _ ⟨Int.le_refl 0, by omega⟩ b0 b1
  · obtain ⟨r, hr, hx⟩ := List.mem_flatMap.1 hx
    exact smp1_ok bits b0 b1 r (List.all_eq_true.1 h r hr) x hx
theorem smp1_len (bits : Int) (r : S26) : (smp1 bits r).length ≤ 2 := by
  unfold smp1; split <;> simp
theorem flat_le (bits : Int) : ∀ l : List S26, (l.flatMap (smp1 bits)).length ≤ 2 * l.length := by
  intro l
  induction l with
  | nil => simp
  | cons r l ih => have := smp1_len bits r; simp only [List.flatMap_cons, List.length_append, List.length_cons]; omega
theorem smp_take (l : List S26) (bits : Int) (i : Nat) (r : S26) (h : l[i]? = some r) : smp (l.take (i + 1)) bits = smp (l.take i) bits ++ smp1 bits r := by
  unfold smp
  rw [List.take_add_one, h]
  simp [List.flatMap_append]
theorem smp_len (l : List S26) (bits : Int) : (smp l bits).length ≤ 2 * l.length + 1 := by
  have := flat_le bits l
  unfold smp
  simp only [List.length_cons]; omega
theorem lift_ok (l : List S24) (h : ∀ x ∈ l, okP x) : ∃ la : List PS, l = la.map fun x => x.1 := by
  induction l with
  | nil => exact ⟨[], rfl⟩
  | cons x l ih =>
    obtain ⟨la, e⟩ := ih (fun y hy => h y (List.mem_cons_of_mem _ hy))
    exact ⟨⟨x, h x List.mem_cons_self⟩ :: la, by rw [List.map_cons, ← e]⟩
end Go.Proofs.Ytndcjncamdhbfaa.P

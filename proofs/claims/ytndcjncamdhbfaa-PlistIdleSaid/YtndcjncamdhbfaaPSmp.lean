/- plist.samples: which prefixes it tells, and that each prefix of so many bits meets the same rules as one of them. -/
import Derived.Test.YtndcjncamdhbfaaSmpT
import Derived.Test.YtndcjncamdhbfaaPPlistL
import Derived.Test.YtndcjncamdhbfaaPx0
import Derived.Test.YtndcjncamdhbfaaPx14
namespace Go.Proofs.Ytndcjncamdhbfaa.P
open Go.RowKit Go.Proofs.YtndcjncamdhbfaaW.PrintWords Go.Proofs.YtndcjncamdhbfaaW.PrintLast Go.Proofs.YtndcjncamdhbfaaW.PrintMore
set_option linter.unusedVariables false
set_option linter.unusedSimpArgs false

def edg1 (r : S26) : List Int := r.f0.f0 :: (if r.f0.f0 + (un r.f0.f1 - 1) = 4294967295 then [] else [r.f0.f0 + un r.f0.f1])
def edg (l : List S26) : List Int := 0 :: l.flatMap edg1
theorem smp_edg (l : List S26) (b : Int) : smp l b = (edg l).map fun e => (⟨floS e b, b⟩ : S24) := by
  unfold smp edg
  rw [List.map_cons, List.map_flatMap]
  congr 1
  have : smp1 b = fun r => (edg1 r).map fun e => (⟨floS e b, b⟩ : S24) := by
    funext r
    unfold smp1 edg1
    split <;> rfl
  rw [this]
theorem floS_mul (a b : Int) : floS a b = un b * (a / un b) := by
  unfold floS
  have := Int.emod_add_mul_ediv a (un b)
  omega
theorem floS_mono (a c b : Int) (h : a ≤ c) : floS a b ≤ floS c b := by
  have hp := un_pos b
  rw [floS_mul, floS_mul]
  exact Int.mul_le_mul_of_nonneg_left (Int.ediv_le_ediv hp h) (by omega)
theorem floS_le (a b : Int) : floS a b ≤ a := by
  have hp := un_pos b
  have := Int.emod_nonneg a (show un b ≠ 0 by omega)
  unfold floS; omega
theorem floS_of (c b : Int) (h : c % un b = 0) : floS c b = c := by unfold floS; rw [h]; omega
theorem un_split (n b : Int) (h : n ≤ b) (hb : b ≤ 32) : un n = un b * 2 ^ (b - n).toNat := by
  unfold un
  rw [← Int.pow_add]
  congr 1
  omega
theorem mod_up (a n b : Int) (h : n ≤ b) (hb : b ≤ 32) (ha : a % un n = 0) : a % un b = 0 ∧ (a + un n) % un b = 0 := by
  obtain ⟨q, hq⟩ : ∃ q, a = un n * q := ⟨a / un n, by have := Int.emod_add_mul_ediv a (un n); omega⟩
  have e : un n = un b * 2 ^ (b - n).toNat := un_split n b h hb
  constructor
  · rw [hq, e, Int.mul_assoc]; exact Int.mul_emod_right _ _
  · rw [hq, e, Int.mul_assoc, ← Int.mul_add]; exact Int.mul_emod_right _ _
theorem inB_iff (a n x : Int) (ha : a % un n = 0) : inB a n x = true ↔ a ≤ x ∧ x ≤ a + (un n - 1) := by
  have hp := un_pos n
  unfold inB
  rw [decide_eq_true_iff]
  constructor
  · intro h
    have h1 := Int.emod_nonneg x (show un n ≠ 0 by omega)
    have h2 := Int.emod_lt_of_pos x hp
    omega
  · rintro ⟨h1, h2⟩
    obtain ⟨q, hq⟩ : ∃ q, a = un n * q := ⟨a / un n, by have := Int.emod_add_mul_ediv a (un n); omega⟩
    obtain ⟨t, ht⟩ : ∃ t, x = a + t := ⟨x - a, by omega⟩
    have : x % un n = t := by
      rw [ht, hq, Int.add_comm, Int.add_mul_emod_self_left]
      exact Int.emod_eq_of_lt (by omega) (by omega)
    omega
theorem greatest (c : Int) : ∀ l : List Int, (∀ x ∈ l, ¬ x ≤ c) ∨ ∃ m ∈ l, m ≤ c ∧ ∀ x ∈ l, x ≤ c → x ≤ m := by
  intro l
  induction l with
  | nil => exact .inl (fun x hx => by cases hx)
  | cons y l ih =>
    rcases ih with h | ⟨m, hm, hmc, hall⟩
    · by_cases hy : y ≤ c
      · refine .inr ⟨y, by simp, hy, fun x hx hxc => ?_⟩
        rcases List.mem_cons.1 hx with rfl | hx
        · exact Int.le_refl _
        · exact absurd hxc (h x hx)
      · refine .inl (fun x hx => ?_)
        rcases List.mem_cons.1 hx with rfl | hx
        · exact hy
        · exact h x hx
    · by_cases hy : y ≤ c ∧ m ≤ y
      · refine .inr ⟨y, by simp, hy.1, fun x hx hxc => ?_⟩
        rcases List.mem_cons.1 hx with rfl | hx
        · exact Int.le_refl _
        · have := hall x hx hxc; omega
      · refine .inr ⟨m, by simp [hm], hmc, fun x hx hxc => ?_⟩
        rcases List.mem_cons.1 hx with rfl | hx
        · omega
        · exact hall x hx hxc
theorem mem_edg {l : List S26} {r : S26} (h : r ∈ l) {e : Int} (he : e ∈ edg1 r) : e ∈ edg l := by
  unfold edg
  exact List.mem_cons_of_mem _ (List.mem_flatMap.2 ⟨r, h, he⟩)
theorem rB_parts {r : S26} (h : rB r = true) : mayB r.f0.f0 r.f0.f1 = true ∧ r.f0.f1 ≤ r.f1 ∧ r.f1 ≤ r.f2 ∧ r.f2 ≤ 32 := (ruleB_iff _ _ _ _).1 h
theorem okR_of {r : S26} (h : inR r) (h2 : rB r = true) : okR r = true := (okR_iff r).2 ⟨h, (rB_parts h2).1⟩
theorem mB_iff (c d : Int) (r : S26) (hr : rB r = true) : mB c d r = true ↔ mayB c d = true ∧ r.f0.f1 ≤ d ∧ (r.f0.f0 ≤ c ∧ c ≤ r.f0.f0 + (un r.f0.f1 - 1)) ∧ r.f1 ≤ d ∧ d ≤ r.f2 := by
  obtain ⟨h1, _, _, _⟩ := rB_parts hr
  have h2 := ((mayB_iff _ _).1 h1).2.2
  rw [← inB_iff _ _ c h2]
  unfold mB metB contB hasB
  simp [h1, and_assoc]
/-- a prefix meets what one of the samples of its length meets -/
theorem sample_like (l : List S26) (ho : ∀ r ∈ l, inR r) (hr : ∀ r ∈ l, rB r = true) (c b : Int) (hc : isA c) (hm : mayB c b = true) :
    ∃ x, (⟨x, b⟩ : S24) ∈ smp l b ∧ x ≤ c ∧ isA x ∧ mayB x b = true ∧ ∀ r ∈ l, mB x b r = mB c b r := by
  obtain ⟨b0, b1, hcb⟩ := (mayB_iff c b).1 hm
  have hp := un_pos b
  rcases greatest c (edg l) with h | ⟨m, hm0, hmc, hall⟩
  · exact absurd hc.1 (h 0 (by unfold edg; simp))
  · have hxc : floS m b ≤ c := Int.le_trans (floS_le m b) hmc
    have hmem : (⟨floS m b, b⟩ : S24) ∈ smp l b := by
      rw [smp_edg]
      exact List.mem_map.2 ⟨m, hm0, rfl⟩
    obtain ⟨hxA, hxM⟩ := smp_ok l b b0 b1 (List.all_eq_true.2 fun r h => okR_of (ho r h) (hr r h)) _ hmem
    refine ⟨floS m b, hmem, hxc, hxA, hxM, fun r h => ?_⟩
    have hrb := hr r h
    obtain ⟨q1, _, _, _⟩ := rB_parts hrb
    obtain ⟨n0, n1, n2⟩ := (mayB_iff _ _).1 q1
    have hlt := last_isA r (okR_of (ho r h) hrb)
    rw [Bool.eq_iff_iff, mB_iff _ _ r hrb, mB_iff _ _ r hrb]
    have hdown : ∀ e, e ∈ edg1 r → e % un b = 0 → e ≤ c → e ≤ floS m b := by
      intro e he hz hec
      have := floS_mono e m b (hall e (mem_edg h he) hec)
      rwa [floS_of e b hz] at this
    constructor
    · rintro ⟨_, k1, ⟨k2, k3⟩, k4⟩
      refine ⟨hm, k1, ⟨by omega, ?_⟩, k4⟩
      obtain ⟨_, z2⟩ := mod_up r.f0.f0 r.f0.f1 b k1 b1 n2
      have hun := un_pos r.f0.f1
      have hca := hc.2
      rcases Int.lt_or_le (r.f0.f0 + (un r.f0.f1 - 1)) c with hlt2 | hle
      · have := hdown (r.f0.f0 + un r.f0.f1) (by unfold edg1; rw [if_neg (by omega)]; simp) z2 (by omega)
        omega
      · exact hle
    · rintro ⟨_, k1, ⟨k2, k3⟩, k4⟩
      obtain ⟨z1, _⟩ := mod_up r.f0.f0 r.f0.f1 b k1 b1 n2
      refine ⟨hxM, k1, ⟨hdown _ (by unfold edg1; simp) z1 k2, by omega⟩, k4⟩
theorem ddA_mem {α : Type} (q : α → α → Bool) (hq : ∀ a b, q a b = true ↔ a = b) (x : α) : ∀ (l : List α) (p : α), x ∈ p :: ddA q p l ↔ x ∈ p :: l := by
  intro l
  induction l with
  | nil => intro p; simp [ddA]
  | cons y l ih =>
    intro p
    simp only [ddA]
    by_cases h : q y p = true
    · rw [if_pos h, ih p]
      have := (hq y p).1 h
      subst this
      simp
    · rw [if_neg h]
      have := ih y
      simp only [List.mem_cons] at this ⊢
      rw [this]
theorem dd_mem {α : Type} (q : α → α → Bool) (hq : ∀ a b, q a b = true ↔ a = b) (x : α) (l : List α) : x ∈ dd q l ↔ x ∈ l := by
  cases l with
  | nil => simp [dd]
  | cons y l => exact ddA_mem q hq x l y
def smpS (l : List S26) (b : Int) : List S24 := dd eqP (sortS (smp l b))
theorem mem_smpS (l : List S26) (b : Int) (x : S24) : x ∈ smpS l b ↔ x ∈ smp l b := by
  unfold smpS
  rw [dd_mem eqP eqP_iff]
  unfold sortS
  exact List.mem_mergeSort
theorem smp_bits {l : List S26} {b : Int} {x : S24} (h : x ∈ smp l b) : x.f1 = b ∧ ∃ e ∈ edg l, x.f0 = floS e b := by
  rw [smp_edg] at h
  obtain ⟨e, he, rfl⟩ := List.mem_map.1 h
  exact ⟨rfl, e, he, rfl⟩
theorem samples_is (l : List S26) (b : Int) (b0 : 0 ≤ b) (b1 : b ≤ 32) (hl : l.length ≤ 1000) (ho : ∀ r ∈ l, inR r) (hr : ∀ r ∈ l, rB r = true) : plist_samples.f l b = some (smpS l b) := by
  unfold plist_samples.f
  rw [if_pos ⟨b0, b1, hl, List.all_eq_true.2 fun r h => okR_of (ho r h) (hr r h)⟩]; rfl
theorem smpS_ok {l : List S26} {b : Int} {x : S24} (b0 : 0 ≤ b) (b1 : b ≤ 32) (ho : ∀ r ∈ l, inR r) (hr : ∀ r ∈ l, rB r = true) (h : x ∈ smpS l b) : isA x.f0 ∧ mayB x.f0 x.f1 = true ∧ x.f1 = b := by
  rw [mem_smpS] at h
  obtain ⟨h1, h2⟩ := smp_ok l b b0 b1 (List.all_eq_true.2 fun r hh => okR_of (ho r hh) (hr r hh)) x h
  exact ⟨h1, h2, (smp_bits h).1⟩
theorem smpS_len (l : List S26) (b : Int) : (smpS l b).length ≤ 2 * l.length + 1 := by
  unfold smpS
  refine Nat.le_trans (dd_len eqP _) ?_
  unfold sortS
  rw [List.length_mergeSort]
  exact smp_len l b
theorem firL_congr {l : List S26} {c d c' d' : Int} (h : ∀ r ∈ l, mB c d r = mB c' d' r) : firL l c d = firL l c' d' := by
  unfold firL idxB
  have e : l.findIdx? (mB c d) = l.findIdx? (mB c' d') := by
    induction l with
    | nil => rfl
    | cons y l ih => rw [List.findIdx?_cons, List.findIdx?_cons, h y (by simp), ih (fun x hx => h x (by simp [hx]))]
  rw [e]
end Go.Proofs.Ytndcjncamdhbfaa.P

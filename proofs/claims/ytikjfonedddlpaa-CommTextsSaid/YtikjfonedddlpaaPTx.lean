/- Texts as lists of bytes; numbers' digits, and that they can be read off. -/
import Derived.Test.YtikjfonedddlpaaPB
import Derived.Test.YtikjfonedddlpaaDigP
import Derived.Test.YtikjfonedddlpaaPx9
namespace Go.Proofs.Ytikjfonedddlpaa.P
open Go.RowKit Go.Proofs.YtikjfonedddlpaaW.PrintWords Go.Proofs.YtikjfonedddlpaaW.PrintLast Go.Proofs.YtikjfonedddlpaaW.PrintMore
set_option linter.unusedVariables false
set_option linter.unusedSimpArgs false

def tx (l : List UInt8) : ByteArray := ⟨l.toArray⟩
theorem tx_app (l m : List UInt8) : tx l ++ tx m = tx (l ++ m) := app_list l m
theorem tx_size (l : List UInt8) : (tx l).size = l.length := size_list l
theorem tx_list (l : List UInt8) : (tx l).toList = l := by unfold tx; simp
theorem tx_inj {l m : List UInt8} : tx l = tx m ↔ l = m := ⟨fun h => by rw [← tx_list l, h, tx_list], fun h => by rw [h]⟩
theorem num1 (n : Nat) (h : n < 10) : strOfNums [(wrap64 (48 + (n : Int))) % 256] = tx [48 + UInt8.ofNat n] := by
  have e : (wrap64 (48 + (n : Int))) % 256 = 48 + n := by rw [wrap64_in _ (by omega) (by omega)]; omega
  rw [e, ← byte_dig n h]; rfl
theorem number_ev : ∀ (m n : Nat) (s : List UInt8), n < 10 ^ (m + 1) → n ≤ 9223372036854775807 → m + 1 + s.length ≤ 9223372036854775807 →
    Evt (fun k => whirligigref01_Number.l0 k (n : Int) (tx s)) (tx (dig n ++ s)) := by
  intro m
  induction m with
  | zero =>
    intro n s h h1 h2
    refine Evt.step ?_
    simp only [whirligigref01_Number.l0]
    have hn : n < 10 := by simpa using h
    refine Evt.ite_neg (by omega) (Evt.bindc rfl ?_)
    rw [num1 n hn, dig_small n hn, tx_app, tx_size, tx_size]
    exact Evt.ite_pos (by simp; omega) (Evt.pure _)
  | succ m ih =>
    intro n s h h1 h2
    refine Evt.step ?_
    simp only [whirligigref01_Number.l0]
    by_cases hn : n < 10
    · refine Evt.ite_neg (by omega) (Evt.bindc rfl ?_)
      rw [num1 n hn, dig_small n hn, tx_app, tx_size, tx_size]
      exact Evt.ite_pos (by simp; omega) (Evt.pure _)
    · refine Evt.ite_pos (by omega) (Evt.bindc rfl ?_)
      have e : Int.tmod (n : Int) 10 = ((n % 10 : Nat) : Int) := by rw [Int.tmod_eq_emod_of_nonneg (by omega)]; omega
      have e2 : Int.tdiv (n : Int) 10 = ((n / 10 : Nat) : Int) := by rw [Int.tdiv_eq_ediv_of_nonneg (by omega)]; omega
      rw [e, e2, num1 _ (by omega), tx_app, tx_size, tx_size, wrap64_in _ (by omega) (by omega), dig_big n hn]
      refine Evt.ite_pos (by simp; omega) ?_
      have := ih (n / 10) ([48 + UInt8.ofNat (n % 10)] ++ s) (by rw [Nat.pow_succ] at h; omega) (by omega) (by simp; omega)
      rw [List.append_assoc]
      exact this
theorem refNumber_ev (n : Int) (h0 : 0 ≤ n) (h1 : n ≤ 9223372036854775807) : Evt (fun k => whirligigref01_Number.f k n) (tx (dig n.toNat)) := by
  obtain ⟨n, rfl⟩ := Int.eq_ofNat_of_zero_le h0
  have := number_ev 18 n [] (by have : (10 : Nat) ^ 19 = 10000000000000000000 := by decide
                                omega) (by omega) (by simp)
  rw [List.append_nil] at this
  exact this
def valD (l : List UInt8) : Nat := l.foldl (fun n c => 10 * n + (c.toNat - 48)) 0
theorem valD_snoc (l : List UInt8) (c : UInt8) : valD (l ++ [c]) = 10 * valD l + (c.toNat - 48) := by simp [valD]
theorem dig_byte (n : Nat) (h : n < 10) : (48 + UInt8.ofNat n).toNat = 48 + n := by rw [UInt8.toNat_add]; simp; omega
theorem valD_dig (n : Nat) : valD (dig n) = n := by
  induction n using Nat.strongRecOn with
  | _ n ih =>
    by_cases h : n < 10
    · rw [dig_small n h]; simp [valD, dig_byte n h]
    · rw [dig_big n h, valD_snoc, ih (n / 10) (by omega), dig_byte _ (by omega)]; omega
theorem dig_inj {m n : Nat} (h : dig m = dig n) : m = n := by rw [← valD_dig m, h, valD_dig]
def isD (c : UInt8) : Bool := decide (48 ≤ c.toNat) && decide (c.toNat ≤ 57)
theorem dig_isD (n : Nat) : ∀ c, c ∈ dig n → isD c = true := by
  induction n using Nat.strongRecOn with
  | _ n ih =>
    intro c hc
    by_cases h : n < 10
    · rw [dig_small n h] at hc; simp at hc; subst hc; unfold isD; rw [dig_byte n h]; simp; omega
    · rw [dig_big n h] at hc
      rcases List.mem_append.1 hc with hc | hc
      · exact ih (n / 10) (by omega) c hc
      · simp at hc; subst hc; unfold isD; rw [dig_byte _ (by omega)]; simp; omega
/-- digits end where none stands -/
def offD (s : List UInt8) : Prop := ∀ c t, s = c :: t → isD c = false
theorem span_eq : ∀ (u v s t : List UInt8), (∀ c, c ∈ u → isD c = true) → (∀ c, c ∈ v → isD c = true) → offD s → offD t → u ++ s = v ++ t → u = v ∧ s = t := by
  intro u
  induction u with
  | nil =>
    intro v s t hu hv hs ht h
    cases v with
    | nil => exact ⟨rfl, h⟩
    | cons c v =>
      have := hs c (v ++ t) (by simpa using h)
      rw [hv c (by simp)] at this; cases this
  | cons c u ih =>
    intro v s t hu hv hs ht h
    cases v with
    | nil =>
      have := ht c (u ++ s) (by simpa using h.symm)
      rw [hu c (by simp)] at this; cases this
    | cons d v =>
      simp at h
      obtain ⟨rfl, h⟩ := h
      obtain ⟨rfl, h2⟩ := ih v s t (fun c hc => hu c (by simp [hc])) (fun c hc => hv c (by simp [hc])) hs ht h
      exact ⟨rfl, h2⟩
theorem dig_span {m n : Nat} {s t : List UInt8} (hs : offD s) (ht : offD t) (h : dig m ++ s = dig n ++ t) : m = n ∧ s = t := by
  obtain ⟨h1, h2⟩ := span_eq _ _ _ _ (dig_isD m) (dig_isD n) hs ht h
  exact ⟨dig_inj h1, h2⟩
theorem offD_cons (c : UInt8) (s : List UInt8) (h : isD c = false) : offD (c :: s) := fun d t e => by cases e; exact h
theorem offD_nil : offD [] := fun d t e => by cases e
end Go.Proofs.Ytikjfonedddlpaa.P

/- Numbers that are read of digits; what stands ahead of a byte. -/
import Derived.Test.YtikjfonedddlpaaPTx
import Derived.Test.YtikjfonedddlpaaNumP
import Derived.Lib.IndexLaws
namespace Go.Proofs.Ytikjfonedddlpaa.P
open Go.RowKit Go.Proofs.YtikjfonedddlpaaW.PrintWords Go.Proofs.YtikjfonedddlpaaW.PrintLast Go.Proofs.YtikjfonedddlpaaW.PrintMore
set_option linter.unusedVariables false
set_option linter.unusedSimpArgs false

theorem numF_snoc (lim : Int) : ∀ (l : List UInt8) (n : Int) (c : UInt8), numF lim n (l ++ [c]) = min (10 * numF lim n l + ((c.toNat : Int) - 48)) lim := by
  intro l
  induction l with
  | nil => intro n c; rfl
  | cons a l ih => intro n c; exact ih _ c
theorem numF_dig (lim : Int) (n : Nat) (h : (n : Int) ≤ lim) : numF lim 0 (dig n) = n := by
  induction n using Nat.strongRecOn with
  | _ n ih =>
    by_cases h1 : n < 10
    · rw [dig_small n h1]
      show min (10 * 0 + (((48 + UInt8.ofNat n).toNat : Int) - 48)) lim = n
      rw [dig_byte n h1]; omega
    · rw [dig_big n h1, numF_snoc, ih (n / 10) (by omega) (by omega), dig_byte _ (by omega)]; omega
theorem dig_len_ge (n : Nat) : 1 ≤ (dig n).length := by
  by_cases h : n < 10
  · rw [dig_small n h]; simp
  · rw [dig_big n h]; simp
theorem dig_head (n : Nat) (h : 0 < n) : (dig n).head? ≠ some 48 := by
  induction n using Nat.strongRecOn with
  | _ n ih =>
    by_cases h1 : n < 10
    · rw [dig_small n h1]
      intro e
      have e2 : (48 + UInt8.ofNat n : UInt8) = 48 := by simpa using e
      have := dig_byte n h1
      rw [e2] at this
      have : (48 : UInt8).toNat = 48 := rfl
      omega
    · have h2 := ih (n / 10) (by omega) (by omega)
      rw [dig_big n h1]
      have h3 := dig_len_ge (n / 10)
      cases hd : dig (n / 10) with
      | nil => rw [hd] at h3; simp at h3
      | cons a l => rw [hd] at h2; simpa using h2
theorem isD_isDg (c : UInt8) : isDg c = isD c := rfl
theorem numL_dig (lim : Int) (n : Nat) (h : (n : Int) ≤ lim) : numL lim (dig n) = ((n : Int), true) := by
  unfold numL
  have h1 := dig_len_ge n
  rw [if_neg, if_pos, numF_dig lim n h]
  · rw [List.all_eq_true]; exact fun c hc => dig_isD n c hc
  · rintro (e | ⟨h2, h3⟩)
    · rw [e] at h1; simp at h1
    · by_cases h0 : n = 0
      · subst h0; rw [dig_small 0 (by omega)] at h2; simp at h2
      · exact dig_head n (by omega) h3
theorem numL_rng (lim : Int) (h0 : 0 ≤ lim) (l : List UInt8) : 0 ≤ (numL lim l).1 ∧ (numL lim l).1 ≤ lim := by
  unfold numL
  split
  · exact ⟨Int.le_refl _, h0⟩
  · split
    · rename_i h; exact numF_rng lim h0 l 0 (Int.le_refl _) h0 h
    · exact ⟨Int.le_refl _, h0⟩
theorem indexByte_app (u v : List UInt8) (c : UInt8) (h : ∀ x, x ∈ u → x ≠ c) : Lib.indexByte (u ++ c :: v) c = u.length := by
  induction u with
  | nil => simp [Lib.indexByte]
  | cons a u ih =>
    have ha := h a (by simp)
    have hi := ih (fun x hx => h x (by simp [hx]))
    simp only [List.cons_append, Lib.indexByte]
    rw [if_neg (by simpa using ha), hi, if_neg (by simp only [beq_iff_eq]; omega)]
    simp
theorem indexByte_lt (l : List UInt8) (c : UInt8) : Lib.indexByte l c < (l.length : Int) ∨ l = [] := by
  by_cases h : l = []
  · exact .inr h
  · refine .inl ?_
    rcases Int.lt_or_le (Lib.indexByte l c) 0 with h1 | h1
    · have : 0 < l.length := List.length_pos_iff.2 h; omega
    · obtain ⟨o, ho⟩ := Int.eq_ofNat_of_zero_le h1
      have h2 := (Lib.indexByte_some ho).1
      have := (List.getElem?_eq_some_iff.1 h2).1
      omega
end Go.Proofs.Ytikjfonedddlpaa.P

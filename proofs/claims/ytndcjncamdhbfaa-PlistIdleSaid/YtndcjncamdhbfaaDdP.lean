/- A list without what stands twice, one behind the other. -/
import Derived.Test.YtndcjncamdhbfaaKdW
namespace Go.Proofs.Ytndcjncamdhbfaa.P
set_option linter.unusedVariables false
section
variable {α : Type} (q : α → α → Bool)
def ddA (p : α) : List α → List α
  | [] => []
  | y :: l => if q y p then ddA p l else y :: ddA y l
def dd : List α → List α
  | [] => []
  | x :: l => x :: ddA q x l
theorem ddA_snoc (hq : ∀ a b, q a b = true ↔ a = b) : ∀ (l : List α) (p x y : α), (p :: l).getLast? = some y → ddA q p (l ++ [x]) = if q x y then ddA q p l else ddA q p l ++ [x] := by
  intro l
  induction l with
  | nil =>
    intro p x y h
    simp at h
    subst h
    simp only [List.nil_append, ddA]
  | cons z l ih =>
    intro p x y h
    have h' : (z :: l).getLast? = some y := by rw [List.getLast?_cons_cons] at h; exact h
    simp only [List.cons_append, ddA]
    by_cases e : q z p = true
    · rw [if_pos e, if_pos e]
      have ez := (hq _ _).1 e
      subst ez
      exact ih z x y h'
    · rw [if_neg e, if_neg e, ih z x y h']
      split <;> rfl
theorem dd_snoc (hq : ∀ a b, q a b = true ↔ a = b) (l : List α) (x y : α) (h : l.getLast? = some y) : dd q (l ++ [x]) = if q x y then dd q l else dd q l ++ [x] := by
  cases l with
  | nil => simp at h
  | cons p l =>
    simp only [List.cons_append, dd]
    rw [ddA_snoc q hq l p x y h]
    split <;> rfl
theorem dd_take (hq : ∀ a b, q a b = true ↔ a = b) (l : List α) (j : Nat) (x y : α) (hx : l[j]? = some x) (hj : 0 < j) (hy : l[j - 1]? = some y) : dd q (l.take (j + 1)) = if q x y then dd q (l.take j) else dd q (l.take j) ++ [x] := by
  have hl : j < l.length := (List.getElem?_eq_some_iff.1 hx).1
  rw [List.take_add_one, hx]
  refine dd_snoc q hq _ x y ?_
  rw [List.getLast?_eq_getElem?, List.length_take, Nat.min_eq_left (by omega), List.getElem?_take_of_lt (by omega), hy]
theorem dd_one (l : List α) (h : l.length ≤ 1) : dd q l = l := by
  cases l with
  | nil => rfl
  | cons x l =>
    cases l with
    | nil => rfl
    | cons y l => simp at h
theorem dd_len : ∀ (l : List α), (dd q l).length ≤ l.length := by
  have h : ∀ (l : List α) (p : α), (ddA q p l).length ≤ l.length := by
    intro l
    induction l with
    | nil => intro p; simp [ddA]
    | cons y l ih =>
      intro p
      simp only [ddA]
      split
      · have := ih p; simp; omega
      · have := ih y; simp; omega
  intro l
  cases l with
  | nil => simp [dd]
  | cons x l => have := h l x; simp [dd]; omega
end
end Go.Proofs.Ytndcjncamdhbfaa.P

/- Which communities are a set, in lists and numbers alone. -/
import Derived.Test.YtikjfonedddlpaaPB
import Derived.Test.YtikjfonedddlpaaKdW
import Derived.Test.YtikjfonedddlpaaPO1
import Derived.Test.YtikjfonedddlpaaPx0
import Derived.Test.YtikjfonedddlpaaPx2
import Derived.Test.YtikjfonedddlpaaPx3
import Derived.Test.YtikjfonedddlpaaPx4
import Derived.Test.YtikjfonedddlpaaPx5
namespace Go.Proofs.Ytikjfonedddlpaa.P
open Go.RowKit Go.Proofs.YtikjfonedddlpaaW.PrintWords Go.Proofs.YtikjfonedddlpaaW.PrintLast Go.Proofs.YtikjfonedddlpaaW.PrintMore
set_option linter.unusedVariables false
set_option linter.unusedSimpArgs false

theorem pat {α : Type} {l : List α} {i : Nat} (h : i < l.length) : ∃ x, x ∈ l ∧ l[i]? = some x ∧ l.drop i = x :: l.drop (i + 1) :=
  ⟨l[i], List.getElem_mem h, List.getElem?_eq_getElem h, List.drop_eq_getElem_cons h⟩
theorem rd_at {l : List Int} {i : Nat} {x : Int} (h : l[i]? = some x) : rd l (i : Int) = x := by
  unfold rd
  rw [Int.toNat_natCast, List.getD_eq_getElem?_getD, h]; rfl
theorem rdC_at {l : List S23} {i : Nat} {x : S23} (h : l[i]? = some x) : rd_T23 l (i : Int) = x := by
  unfold rd_T23
  rw [Int.toNat_natCast, List.getD_eq_getElem?_getD, h]; rfl

def mayCB (a b : Int) : Bool := decide (1 ≤ a) && (decide (a ≤ 65535) && (decide (0 ≤ b) && decide (b ≤ 65535)))
theorem commMay_is (a b : Int) : comm_May.f a b = some (mayCB a b) := by
  unfold comm_May.f mayCB
  by_cases h1 : a ≥ 1
  · rw [if_pos h1]
    by_cases h2 : a ≤ 65535
    · rw [if_pos h2]
      by_cases h3 : b ≥ 0
      · rw [if_pos h3]; simp [h1, h2, h3]
      · rw [if_neg h3]; simp [h3]
    · rw [if_neg h2]; simp [h2]
  · rw [if_neg h1]; simp [h1]
def stepsB (p : Option S23) : List S23 → Bool
  | [] => true
  | x :: l => mayCB x.f0 x.f1 && ((match p with | none => true | some q => decide (ordC q x < 0)) && stepsB (some x) l)
/-- the one ahead of the i-th -/
def prevC (l : List S23) (i : Nat) : Option S23 := if i = 0 then none else l[i - 1]?
theorem prevC_succ (l : List S23) (i : Nat) : prevC l (i + 1) = l[i]? := by unfold prevC; rw [if_neg (by omega)]; rfl
def setB (l : List S23) : Bool := decide (l.length ≤ 8) && stepsB none l
theorem commOrder_ev (x y : S23) : Evt (fun k => comm_order.f k x.f0 x.f1 y.f0 y.f1) (ordC x y) := Evt.of_mono (fun k => comm_order.mono _ _ _ _ k) (ordC_is x y)
theorem commSetL_ev : ∀ (d : Nat) (l : List S23) (i : Nat), l.length ≤ 1000000 → l.length - i = d → i ≤ l.length → Evt (fun k => comm_Set.l0 k l l (l.length : Int) (i : Int)) (stepsB (prevC l i) (l.drop i)) := by
  intro d
  induction d with
  | zero =>
    intro l i hl hd hi
    refine Evt.step ?_
    simp only [comm_Set.l0]
    refine Evt.ite_neg (by omega) (Evt.of fun k => ?_)
    rw [List.drop_eq_nil_of_le (by omega)]; rfl
  | succ d ih =>
    intro l i hl hd hi
    refine Evt.step ?_
    simp only [comm_Set.l0]
    obtain ⟨x, hx, he, hdr⟩ := pat (l := l) (i := i) (by omega)
    refine Evt.ite_pos (by omega) (Evt.ite_pos (by omega) (Evt.ite_pos (by omega) ?_))
    have hn := ih l (i + 1) hl (by omega) (by omega)
    rw [prevC_succ, he] at hn
    rw [rdC_at he, hdr]
    refine Evt.bindc (commMay_is _ _) ?_
    simp only [stepsB]
    by_cases hb : mayCB x.f0 x.f1 = true
    · refine Evt.ite_pos hb ?_
      rw [hb, Bool.true_and, wrap64_in ((i : Int) + 1) (by omega) (by omega)]
      by_cases h0 : i = 0
      · subst h0
        refine Evt.ite_neg (by simp) ?_
        exact hn
      · obtain ⟨q, hq, hqe, _⟩ := pat (l := l) (i := i - 1) (by omega)
        have hp : prevC l i = some q := by unfold prevC; rw [if_neg h0, hqe]
        rw [hp, wrap64_in ((i : Int) - 1) (by omega) (by omega), show ((i : Int) - 1) = ((i - 1 : Nat) : Int) by omega]
        refine Evt.ite_pos (by omega) (Evt.ite_pos (by omega) (Evt.ite_pos (by omega) ?_))
        rw [rdC_at hqe]
        refine Evt.bind (commOrder_ev q x) ?_
        by_cases hc : ordC q x < 0
        · refine Evt.ite_neg (by omega) ?_
          simp only [hc, decide_true, Bool.true_and]
          exact hn
        · refine Evt.ite_pos (by omega) (Evt.of fun k => ?_)
          simp [hc]
    · refine Evt.ite_neg hb (Evt.of fun k => ?_)
      rw [Bool.eq_false_iff.mpr hb]; rfl
theorem commSet_ev (l : List S23) (hl : l.length ≤ 1000000) : Evt (fun k => comm_Set.f k l) (setB l) := by
  unfold comm_Set.f setB
  by_cases h : l.length ≤ 8
  · rw [decide_eq_true h, Bool.true_and]
    exact Evt.ite_neg (by omega) (commSetL_ev l.length l 0 hl (by omega) (by omega))
  · rw [decide_eq_false h]
    exact Evt.ite_pos (by omega) (Evt.pure _)
theorem take_at {α : Type} {l : List α} {i : Nat} {x : α} (h : l[i]? = some x) : l.take (i + 1) = l.take i ++ [x] := by rw [List.take_add_one, h]; rfl
theorem mayCB_iff {a b : Int} : mayCB a b = true ↔ 1 ≤ a ∧ a ≤ 65535 ∧ 0 ≤ b ∧ b ≤ 65535 := by simp [mayCB]
theorem steps_may : ∀ (l : List S23) (p : Option S23), stepsB p l = true → ∀ x, x ∈ l → mayCB x.f0 x.f1 = true := by
  intro l
  induction l with
  | nil => intro p _ x hx; simp at hx
  | cons y l ih =>
    intro p h x hx
    simp only [stepsB, Bool.and_eq_true] at h
    rcases List.mem_cons.1 hx with rfl | hx
    · exact h.1
    · exact ih _ h.2.2 x hx
theorem setB_iff {l : List S23} (h : setB l = true) : l.length ≤ 8 ∧ ∀ x, x ∈ l → mayCB x.f0 x.f1 = true := by
  simp only [setB, Bool.and_eq_true, decide_eq_true_eq] at h
  exact ⟨h.1, steps_may l none h.2⟩
theorem steps_lt : ∀ (l : List S23) (p : Option S23), stepsB p l = true → (∀ q, p = some q → ∀ x, x ∈ l → ordC q x < 0) ∧ ∀ (i j : Nat) x y, i < j → l[i]? = some x → l[j]? = some y → ordC x y < 0 := by
  intro l
  induction l with
  | nil => intro p h; exact ⟨fun q _ x hx => by simp at hx, fun i j x y _ hx => by simp at hx⟩
  | cons a l ih =>
    intro p h
    simp only [stepsB, Bool.and_eq_true] at h
    obtain ⟨_, h1, h2⟩ := h
    obtain ⟨h3, h4⟩ := ih (some a) h2
    refine ⟨fun q hq x hx => ?_, fun i j x y hij hx hy => ?_⟩
    · subst hq
      have h5 : ordC q a < 0 := by simpa using h1
      rcases List.mem_cons.1 hx with rfl | hx
      · exact h5
      · have h6 := h3 a rfl x hx
        have h7 := ordC_ord.2 q a x (by omega) (by omega)
        rcases Int.lt_or_eq_of_le h7 with h8 | h8
        · exact h8
        · have := ordC_ord.zero (a := q) (b := a) (d := x) (by omega) (by omega) h8; omega
    · match i, j, hij with
      | 0, j + 1, _ =>
        simp at hx hy
        subst hx
        exact h3 a rfl y (List.mem_of_getElem? hy)
      | i + 1, j + 1, hij =>
        simp at hx hy
        exact h4 i j x y (by omega) hx hy
theorem set_is (k : Nat) (l : List S23) (h : comm_Set.f k l = some true) (hl : l.length ≤ 1000000) : setB l = true := by
  obtain ⟨K, hK⟩ := commSet_ev l hl
  have h1 := hK (k + K) (by omega)
  have h2 := more_rounds (fun j => comm_Set.mono l j) k K _ h
  exact Option.some.inj (h1.symm.trans h2)
end Go.Proofs.Ytikjfonedddlpaa.P

/- How two attributes stand to one another. -/
import Derived.Test.YtnnlbofmlfafhaaPOrd
import Derived.Test.YtnnlbofmlfafhaaOk
import Derived.Test.YtnnlbofmlfafhaaPx0
import Derived.Test.YtnnlbofmlfafhaaPx5
namespace Go.Proofs.Ytnnlbofmlfafhaa.P
open Go.RowKit Go.Proofs.YtnnlbofmlfafhaaW.PrintWords Go.Proofs.YtnnlbofmlfafhaaW.PrintLast Go.Proofs.YtnnlbofmlfafhaaW.PrintMore
set_option linter.unusedVariables false
set_option linter.unusedSimpArgs false

def attC (x y : S30) : Int := orI (cmpI x.f0 y.f0) (orI (cmpI x.f1 y.f1) (orI (cmpI x.f2 y.f2) (orI (cmpIL x.f3 y.f3) (orI (cmpCL x.f4 y.f4) (orI (cmpI x.f5 y.f5) (orI (cmpIL x.f6 y.f6) 0))))))
theorem zero_ord {α : Type} : Ord (fun _ _ : α => (0 : Int)) := ⟨fun _ _ => rfl, fun _ _ _ _ _ => Int.le_refl 0⟩
theorem attC_ord : Ord attC :=
  orI_ord (cmpI_ord.pull fun x : S30 => x.f0) (orI_ord (cmpI_ord.pull fun x : S30 => x.f1) (orI_ord (cmpI_ord.pull fun x : S30 => x.f2) (orI_ord (cmpIL_ord.pull fun x : S30 => x.f3) (orI_ord (cmpCL_ord.pull fun x : S30 => x.f4) (orI_ord (cmpI_ord.pull fun x : S30 => x.f5) (orI_ord (cmpIL_ord.pull fun x : S30 => x.f6) zero_ord))))))
theorem attC_zero (x y : S30) : attC x y = 0 ↔ x = y := by
  unfold attC
  simp only [orI_zero, cmpI_zero, cmpIL_zero, cmpCL_zero, and_true]
  cases x; cases y; simp
theorem attC_tri (x y : S30) : attC x y = -1 ∨ attC x y = 0 ∨ attC x y = 1 := by
  have t : ∀ {a b : Int}, (a = -1 ∨ a = 0 ∨ a = 1) → (b = -1 ∨ b = 0 ∨ b = 1) → (orI a b = -1 ∨ orI a b = 0 ∨ orI a b = 1) := by
    intro a b ha hb; unfold orI; split <;> assumption
  have lst : ∀ {α : Type} (c : α → α → Int), (∀ a b, c a b = -1 ∨ c a b = 0 ∨ c a b = 1) → ∀ a b : List α, cmpLst c a b = -1 ∨ cmpLst c a b = 0 ∨ cmpLst c a b = 1 := by
    intro α c h a
    induction a with
    | nil => intro b; cases b <;> simp [cmpLst]
    | cons x a ih =>
      intro b
      cases b with
      | nil => simp [cmpLst]
      | cons y b =>
        simp only [cmpLst]
        split
        · exact h x y
        · exact ih b
  unfold attC cmpIL cmpCL
  refine t (cmpI_tri _ _) (t (cmpI_tri _ _) (t (cmpI_tri _ _) (t (t (cmpI_tri _ _) (lst _ cmpI_tri _ _)) (t (t (cmpI_tri _ _) (lst _ (fun a b => t (cmpI_tri _ _) (cmpI_tri _ _)) _ _)) (t (cmpI_tri _ _) (t (t (cmpI_tri _ _) (lst _ cmpI_tri _ _)) (by simp)))))))
theorem sign_is (a b : Int) : whirligigref09_sign.f a b = some (cmpI a b) := by
  unfold whirligigref09_sign.f cmpI
  by_cases h : a < b
  · rw [if_pos h, if_pos h]
  · rw [if_neg h, if_neg h]
    by_cases h2 : a > b
    · rw [if_pos h2, if_pos h2]
    · rw [if_neg h2, if_neg h2]
theorem attrCmp_ev (x y : S30) (h1 : x.f3.length ≤ 1000) (h2 : x.f6.length ≤ 1000) : Evt (fun k => attr_Compare.f k x.f0 x.f1 x.f2 x.f3 x.f4 x.f5 x.f6 y.f0 y.f1 y.f2 y.f3 y.f4 y.f5 y.f6) (attC x y) := by
  unfold attr_Compare.f
  refine Evt.bindc (cmpI_is _ _) (Evt.bindc (cmpI_is _ _) (Evt.bindc (cmpI_is _ _) (Evt.bind (asCmp_ev _ _ h1) (Evt.bindc rfl (Evt.bindc (cmpI_is _ _) (Evt.bind (asCmp_ev _ _ h2) (Evt.bind (cmpOrF_ev _ (by simp)) (Evt.pure _))))))))
theorem refFirst_ev : ∀ (d : Nat) (l : List Int) (i : Nat), l.length ≤ 100 → l.length - i = d → i ≤ l.length → Evt (fun k => whirligigref09_Compare.l0 k l (i : Int)) (firstNz (l.drop i)) := by
  intro d
  induction d with
  | zero =>
    intro l i hl hd hi
    refine Evt.step ?_
    simp only [whirligigref09_Compare.l0]
    refine Evt.ite_neg (by omega) (Evt.of fun k => ?_)
    rw [List.drop_eq_nil_of_le (by omega)]; rfl
  | succ d ih =>
    intro l i hl hd hi
    refine Evt.step ?_
    simp only [whirligigref09_Compare.l0]
    obtain ⟨x, hx, he, hdr⟩ := pat (l := l) (i := i) (by omega)
    refine Evt.ite_pos (by omega) (Evt.ite_pos (by omega) ?_)
    rw [rd_at he, hdr]
    show Evt _ (orI x (firstNz (l.drop (i + 1))))
    unfold orI
    by_cases hb : x = 0
    · rw [if_neg (by omega)]
      refine Evt.ite_pos hb ?_
      rw [wrap64_in _ (by omega) (by omega)]
      exact ih l (i + 1) hl (by omega) (by omega)
    · rw [if_pos hb]
      exact Evt.ite_neg hb (Evt.pure _)
theorem refCmp_ev (x y : S30) (h1 : x.f3.length ≤ 1000) (h2 : x.f6.length ≤ 1000) (h3 : x.f4.length ≤ 1000) : Evt (fun k => whirligigref09_Compare.f k x.f0 x.f1 x.f2 x.f3 x.f4 x.f5 x.f6 y.f0 y.f1 y.f2 y.f3 y.f4 y.f5 y.f6) (attC x y) := by
  unfold whirligigref09_Compare.f
  refine Evt.bindc (sign_is _ _) (Evt.bindc (sign_is _ _) (Evt.bindc (sign_is _ _) (Evt.bind (refAs_ev _ _ h1) (Evt.bind (refComm_ev _ _ h3) (Evt.bindc (sign_is _ _) (Evt.bind (refAs_ev _ _ h2) ?_))))))
  exact refFirst_ev 7 _ 0 (by simp) (by simp) (by simp)
theorem few_is (x : S30) : whirligigref09_Few.f x.f0 x.f1 x.f2 x.f3 x.f4 x.f5 x.f6 = some (decide (x.f3.length ≤ 100 ∧ x.f4.length ≤ 100 ∧ x.f6.length ≤ 100)) := by
  unfold whirligigref09_Few.f
  by_cases h1 : x.f3.length ≤ 100
  · rw [if_pos (by omega)]
    by_cases h2 : x.f4.length ≤ 100
    · rw [if_pos (by omega)]
      exact congrArg some (decide_eq_decide.2 (by omega))
    · rw [if_neg (by omega), decide_eq_false (by omega)]
  · rw [if_neg (by omega), decide_eq_false (by omega)]
end Go.Proofs.Ytnnlbofmlfafhaa.P

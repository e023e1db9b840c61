/- Orders that are told by numbers; lists', one element behind the other. -/
import Derived.Test.YtikjfonedddlpaaPB
import Derived.Test.YtikjfonedddlpaaKdW
import Derived.Test.YtikjfonedddlpaaPx0
import Derived.Test.YtikjfonedddlpaaPx5
namespace Go.Proofs.Ytikjfonedddlpaa.P
open Go.RowKit Go.Proofs.YtikjfonedddlpaaW.PrintWords Go.Proofs.YtikjfonedddlpaaW.PrintLast Go.Proofs.YtikjfonedddlpaaW.PrintMore
set_option linter.unusedVariables false
set_option linter.unusedSimpArgs false

instance : DecidableEq S23 := fun a b => if h : a.f0 = b.f0 ∧ a.f1 = b.f1 then isTrue (by cases a; cases b; simp_all) else isFalse (by rintro rfl; exact h ⟨rfl, rfl⟩)
/-- an order told by numbers -/
def Ord {α : Type} (c : α → α → Int) : Prop := (∀ a b, c b a = - c a b) ∧ (∀ a b d, c a b ≤ 0 → c b d ≤ 0 → c a d ≤ 0)
theorem Ord.self {α : Type} {c : α → α → Int} (h : Ord c) (a : α) : c a a = 0 := by have := h.1 a a; omega
theorem Ord.zero {α : Type} {c : α → α → Int} (h : Ord c) {a b d : α} (h1 : c a b ≤ 0) (h2 : c b d ≤ 0) (h3 : c a d = 0) : c a b = 0 ∧ c b d = 0 := by
  have e1 := h.1 a d
  have e2 := h.1 a b
  have e3 := h.1 b d
  have t1 := h.2 b d a h2 (by omega)
  have t2 := h.2 d a b (by omega) h1
  constructor <;> omega
theorem Ord.pull {α β : Type} {c : α → α → Int} (h : Ord c) (f : β → α) : Ord (fun a b => c (f a) (f b)) := ⟨fun a b => h.1 _ _, fun a b d => h.2 _ _ _⟩
theorem cmpI_ord : Ord cmpI := by
  refine ⟨fun a b => ?_, fun a b d => ?_⟩
  · unfold cmpI; split <;> split <;> omega
  · unfold cmpI; split <;> split <;> split <;> (try split) <;> (try split) <;> omega
theorem cmpI_zero {a b : Int} : cmpI a b = 0 ↔ a = b := by unfold cmpI; split <;> (try split) <;> omega
theorem cmpI_tri (a b : Int) : cmpI a b = -1 ∨ cmpI a b = 0 ∨ cmpI a b = 1 := by unfold cmpI; split <;> (try split) <;> omega
theorem orI_ord {α : Type} {c d : α → α → Int} (h : Ord c) (g : Ord d) : Ord (fun a b => orI (c a b) (d a b)) := by
  refine ⟨fun x y => ?_, fun x y z h1 h2 => ?_⟩
  · show orI _ _ = - orI _ _
    unfold orI
    rw [h.1 x y, g.1 x y]
    by_cases e : c x y = 0
    · rw [if_neg (by omega), if_neg (by omega)]
    · rw [if_pos (by omega), if_pos (by omega)]
  · have h1' : orI (c x y) (d x y) ≤ 0 := h1
    have h2' : orI (c y z) (d y z) ≤ 0 := h2
    show orI (c x z) (d x z) ≤ 0
    unfold orI at *
    have p1 : c x y ≤ 0 := by by_cases e : c x y = 0 <;> simp [e] at h1' ⊢ ; exact h1'
    have p2 : c y z ≤ 0 := by by_cases e : c y z = 0 <;> simp [e] at h2' ⊢ ; exact h2'
    have p3 := h.2 x y z p1 p2
    by_cases e : c x z = 0
    · obtain ⟨e1, e2⟩ := h.zero p1 p2 e
      rw [if_neg (by omega)] at h1' h2' ⊢
      exact g.2 x y z h1' h2'
    · rw [if_pos e]; exact p3
theorem orI_zero {a b : Int} : orI a b = 0 ↔ a = 0 ∧ b = 0 := by unfold orI; by_cases h : a = 0 <;> simp [h]
theorem cmpLst_ord {α : Type} {c : α → α → Int} (h : Ord c) : Ord (cmpLst c) := by
  have anti : ∀ a b : List α, cmpLst c b a = - cmpLst c a b := by
    intro a
    induction a with
    | nil => intro b; cases b <;> simp [cmpLst]
    | cons x a ih =>
      intro b
      cases b with
      | nil => simp [cmpLst]
      | cons y b =>
        simp only [cmpLst]
        rw [h.1 x y, ih b]
        by_cases e : c x y = 0
        · rw [if_neg (by omega), if_neg (by omega)]
        · rw [if_pos (by omega), if_pos (by omega)]
  refine ⟨anti, ?_⟩
  intro a
  induction a with
  | nil => intro b d h1 h2; cases d <;> simp [cmpLst]
  | cons x a ih =>
    intro b d h1 h2
    cases b with
    | nil => simp [cmpLst] at h1
    | cons y b =>
      cases d with
      | nil => simp [cmpLst] at h2
      | cons z d =>
        simp only [cmpLst] at h1 h2 ⊢
        have p1 : c x y ≤ 0 := by by_cases e : c x y = 0 <;> simp [e] at h1 ⊢ ; exact h1
        have p2 : c y z ≤ 0 := by by_cases e : c y z = 0 <;> simp [e] at h2 ⊢ ; exact h2
        have p3 := h.2 x y z p1 p2
        by_cases e : c x z = 0
        · obtain ⟨e1, e2⟩ := h.zero p1 p2 e
          rw [if_neg (by omega)] at h1 h2 ⊢
          exact ih b d h1 h2
        · rw [if_pos e]; exact p3
theorem cmpLst_zero {α : Type} {c : α → α → Int} (h : ∀ a b, c a b = 0 ↔ a = b) : ∀ a b : List α, cmpLst c a b = 0 ↔ a = b := by
  intro a
  induction a with
  | nil => intro b; cases b <;> simp [cmpLst]
  | cons x a ih =>
    intro b
    cases b with
    | nil => simp [cmpLst]
    | cons y b =>
      simp only [cmpLst]
      by_cases e : c x y = 0
      · rw [if_neg (by omega), ih b, (h x y).1 e]; simp
      · rw [if_pos e]; constructor
        · intro q; exact absurd q e
        · intro q; cases q; exact absurd ((h x x).2 rfl) e
theorem cmpLst_gt {α : Type} {c : α → α → Int} : ∀ a b : List α, a.length = b.length → cmpLst c a b = cmpLst c a b := fun _ _ _ => rfl
theorem ordC_ord : Ord ordC := orI_ord (cmpI_ord.pull (fun x : S23 => x.f0)) (cmpI_ord.pull (fun x : S23 => x.f1))
theorem ordC_zero (a b : S23) : ordC a b = 0 ↔ a = b := by
  unfold ordC
  rw [orI_zero, cmpI_zero, cmpI_zero]
  cases a; cases b; simp
theorem cmpCL_ord : Ord cmpCL := orI_ord (cmpI_ord.pull (fun l : List S23 => (l.length : Int))) (cmpLst_ord ordC_ord)
theorem cmpCL_zero (a b : List S23) : cmpCL a b = 0 ↔ a = b := by
  unfold cmpCL
  rw [orI_zero, cmpLst_zero ordC_zero]
  constructor
  · exact fun h => h.2
  · exact fun h => ⟨by rw [h]; exact cmpI_zero.2 rfl, h⟩
end Go.Proofs.Ytikjfonedddlpaa.P

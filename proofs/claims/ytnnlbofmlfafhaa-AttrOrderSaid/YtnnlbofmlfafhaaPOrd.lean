/- Orders that are told by numbers; lists', one element behind the other. -/
import Derived.Test.YtnnlbofmlfafhaaPB
import Derived.Test.YtnnlbofmlfafhaaKdW
import Derived.Test.YtnnlbofmlfafhaaPx0
import Derived.Test.YtnnlbofmlfafhaaPx2
import Derived.Test.YtnnlbofmlfafhaaPx5
namespace Go.Proofs.Ytnnlbofmlfafhaa.P
open Go.RowKit Go.Proofs.YtnnlbofmlfafhaaW.PrintWords Go.Proofs.YtnnlbofmlfafhaaW.PrintLast Go.Proofs.YtnnlbofmlfafhaaW.PrintMore
set_option linter.unusedVariables false
set_option linter.unusedSimpArgs false

/-- an order told by numbers -/
def Ord {α : Type} (c : α → α → Int) : Prop := (∀ a b, c b a = - c a b) ∧ (∀ a b d, c a b ≤ 0 → c b d ≤ 0 → c a d ≤ 0)
theorem Ord.self {α : Type} {c : α → α → Int} (h : Ord c) (a : α) : c a a = 0 := by have := h.1 a a; omega
theorem Ord.zero {α : Type} {c : α → α → Int} (h : Ord c) {a b d : α} (h1 : c a b ≤ 0) (h2 : c b d ≤ 0) (h3 : c a d = 0) : c a b = 0 ∧ c b d = 0 := by
  have e1 := h.1 a d
  have e2 := h.1 a b
  have e3 := h.1 b d
  have t1 := h.2 b d a h2 (by omega)
  have t2 := h.2 d a b (by omega) h1
  constructor <;> omega
theorem Ord.pull {α β : Type} {c : α → α → Int} (h : Ord c) (f : β → α) : Ord (fun a b => c (f a) (f b)) := ⟨fun a b => h.1 _ _, fun a b d => h.2 _ _ _⟩
theorem cmpI_ord : Ord cmpI := by
  refine ⟨fun a b => ?_, fun a b d => ?_⟩
  · unfold cmpI; split <;> split <;> omega
  · unfold cmpI; split <;> split <;> split <;> (try split) <;> (try split) <;> omega
theorem cmpI_zero {a b : Int} : cmpI a b = 0 ↔ a = b := by unfold cmpI; split <;> (try split) <;> omega
theorem cmpI_tri (a b : Int) : cmpI a b = -1 ∨ cmpI a b = 0 ∨ cmpI a b = 1 := by unfold cmpI; split <;> (try split) <;> omega
theorem orI_ord {α : Type} {c d : α → α → Int} (h : Ord c) (g : Ord d) : Ord (fun a b => orI (c a b) (d a b)) := by
  refine ⟨fun x y => ?_, fun x y z h1 h2 => ?_⟩
  · show orI _ _ = - orI _ _
    unfold orI
    rw [h.1 x y, g.1 x y]
    by_cases e : c x y = 0
    · rw [if_neg (by omega), if_neg (by omega)]
    · rw [if_pos (by omega), if_pos (by omega)]
  · have h1' : orI (c x y) (d x y) ≤ 0 := h1
    have h2' : orI (c y z) (d y z) ≤ 0 := h2
    show orI (c x z) (d x z) ≤ 0
    unfold orI at *
    have p1 : c x y ≤ 0 := by by_cases e : c x y = 0 <;> simp [e] at h1' ⊢ ; exact h1'
    have p2 : c y z ≤ 0 := by by_cases e : c y z = 0 <;> simp [e] at h2' ⊢ ; exact h2'
    have p3 := h.2 x y z p1 p2
    by_cases e : c x z = 0
    · obtain ⟨e1, e2⟩ := h.zero p1 p2 e
      rw [if_neg (by omega)] at h1' h2' ⊢
      exact g.2 x y z h1' h2'
    · rw [if_pos e]; exact p3
theorem orI_zero {a b : Int} : orI a b = 0 ↔ a = 0 ∧ b = 0 := by unfold orI; by_cases h : a = 0 <;> simp [h]
theorem cmpLst_ord {α : Type} {c : α → α → Int} (h : Ord c) : Ord (cmpLst c) := by
  have anti : ∀ a b : List α, cmpLst c b a = - cmpLst c a b := by
    intro a
    induction a with
    | nil => intro b; cases b <;> simp [cmpLst]
    | cons x a ih =>
      intro b
      cases b with
      | nil => simp [cmpLst]
      | cons y b =>
        simp only [cmpLst]
        rw [h.1 x y, ih b]
        by_cases e : c x y = 0
        · rw [if_neg (by omega), if_neg (by omega)]
        · rw [if_pos (by omega), if_pos (by omega)]
  refine ⟨anti, ?_⟩
  intro a
  induction a with
  | nil => intro b d h1 h2; cases d <;> simp [cmpLst]
  | cons x a ih =>
    intro b d h1 h2
    cases b with
    | nil => simp [cmpLst] at h1
    | cons y b =>
      cases d with
      | nil => simp [cmpLst] at h2
      | cons z d =>
        simp only [cmpLst] at h1 h2 ⊢
        have p1 : c x y ≤ 0 := by by_cases e : c x y = 0 <;> simp [e] at h1 ⊢ ; exact h1
        have p2 : c y z ≤ 0 := by by_cases e : c y z = 0 <;> simp [e] at h2 ⊢ ; exact h2
        have p3 := h.2 x y z p1 p2
        by_cases e : c x z = 0
        · obtain ⟨e1, e2⟩ := h.zero p1 p2 e
          rw [if_neg (by omega)] at h1 h2 ⊢
          exact ih b d h1 h2
        · rw [if_pos e]; exact p3
theorem cmpLst_zero {α : Type} {c : α → α → Int} (h : ∀ a b, c a b = 0 ↔ a = b) : ∀ a b : List α, cmpLst c a b = 0 ↔ a = b := by
  intro a
  induction a with
  | nil => intro b; cases b <;> simp [cmpLst]
  | cons x a ih =>
    intro b
    cases b with
    | nil => simp [cmpLst]
    | cons y b =>
      simp only [cmpLst]
      by_cases e : c x y = 0
      · rw [if_neg (by omega), ih b, (h x y).1 e]; simp
      · rw [if_pos e]; constructor
        · intro q; exact absurd q e
        · intro q; cases q; exact absurd ((h x x).2 rfl) e
theorem cmpLst_gt {α : Type} {c : α → α → Int} : ∀ a b : List α, a.length = b.length → cmpLst c a b = cmpLst c a b := fun _ _ _ => rfl
theorem ordC_ord : Ord ordC := orI_ord (cmpI_ord.pull (fun x : S63 => x.f0)) (cmpI_ord.pull (fun x : S63 => x.f1))
theorem ordC_zero (a b : S63) : ordC a b = 0 ↔ a = b := by
  unfold ordC
  rw [orI_zero, cmpI_zero, cmpI_zero]
  cases a; cases b; simp
theorem cmpCL_ord : Ord cmpCL := orI_ord (cmpI_ord.pull (fun l : List S63 => (l.length : Int))) (cmpLst_ord ordC_ord)
theorem cmpCL_zero (a b : List S63) : cmpCL a b = 0 ↔ a = b := by
  unfold cmpCL
  rw [orI_zero, cmpLst_zero ordC_zero]
  constructor
  · exact fun h => h.2
  · exact fun h => ⟨by rw [h]; exact cmpI_zero.2 rfl, h⟩
/-- lists of numbers: the longer one is the greater one -/
def cmpIL (a b : List Int) : Int := orI (cmpI a.length b.length) (cmpLst cmpI a b)
theorem cmpIL_ord : Ord cmpIL := orI_ord (cmpI_ord.pull (fun l : List Int => (l.length : Int))) (cmpLst_ord cmpI_ord)
theorem cmpIL_zero (a b : List Int) : cmpIL a b = 0 ↔ a = b := by
  unfold cmpIL
  rw [orI_zero, cmpLst_zero (fun a b => cmpI_zero)]
  constructor
  · exact fun h => h.2
  · exact fun h => ⟨by rw [h]; exact cmpI_zero.2 rfl, h⟩

theorem pat {α : Type} {l : List α} {i : Nat} (h : i < l.length) : ∃ x, x ∈ l ∧ l[i]? = some x ∧ l.drop i = x :: l.drop (i + 1) :=
  ⟨l[i], List.getElem_mem h, List.getElem?_eq_getElem h, List.drop_eq_getElem_cons h⟩
theorem rd_at {l : List Int} {i : Nat} {x : Int} (h : l[i]? = some x) : rd l (i : Int) = x := by
  unfold rd
  rw [Int.toNat_natCast, List.getD_eq_getElem?_getD, h]; rfl
theorem rdC_at {l : List S63} {i : Nat} {x : S63} (h : l[i]? = some x) : rd_T63 l (i : Int) = x := by
  unfold rd_T63
  rw [Int.toNat_natCast, List.getD_eq_getElem?_getD, h]; rfl

/-- the first of a list that isn't nought -/
def firstNz : List Int → Int
  | [] => 0
  | x :: l => orI x (firstNz l)
theorem cmpOr_ev : ∀ (d : Nat) (l : List Int) (i : Nat), l.length ≤ 100 → l.length - i = d → i ≤ l.length → Evt (fun k => cmp_Or_int.l0 k 0 l (l.length : Int) (i : Int)) (firstNz (l.drop i)) := by
  intro d
  induction d with
  | zero =>
    intro l i hl hd hi
    refine Evt.step ?_
    simp only [cmp_Or_int.l0]
    refine Evt.ite_neg (by omega) (Evt.of fun k => ?_)
    rw [List.drop_eq_nil_of_le (by omega)]; rfl
  | succ d ih =>
    intro l i hl hd hi
    refine Evt.step ?_
    simp only [cmp_Or_int.l0]
    obtain ⟨x, hx, he, hdr⟩ := pat (l := l) (i := i) (by omega)
    refine Evt.ite_pos (by omega) (Evt.ite_pos (by omega) (Evt.ite_pos (by omega) ?_))
    rw [rd_at he, hdr]
    show Evt _ (orI x (firstNz (l.drop (i + 1))))
    unfold orI
    by_cases hb : x = 0
    · rw [if_neg (by omega)]
      refine Evt.ite_pos hb ?_
      rw [wrap64_in _ (by omega) (by omega)]
      exact ih l (i + 1) hl (by omega) (by omega)
    · rw [if_pos hb]
      exact Evt.ite_neg hb (Evt.pure _)
theorem cmpOrF_ev (l : List Int) (hl : l.length ≤ 100) : Evt (fun k => cmp_Or_int.f k l) (firstNz l) := cmpOr_ev l.length l 0 hl (by omega) (by omega)
theorem slcCmp_ev : ∀ (d : Nat) (a b : List Int) (i : Nat), a.length ≤ 1000 → a.length - i = d → i ≤ a.length → i ≤ b.length → Evt (fun k => slices_Compare_int_int.l0 k a b a (a.length : Int) (i : Int)) (cmpLst cmpI (a.drop i) (b.drop i)) := by
  intro d
  induction d with
  | zero =>
    intro a b i hl hd hi hb
    refine Evt.step ?_
    simp only [slices_Compare_int_int.l0]
    refine Evt.ite_neg (by omega) (Evt.of fun k => ?_)
    rw [show a.drop i = [] from List.drop_eq_nil_of_le (by omega)]
    by_cases h : i < b.length
    · obtain ⟨y, _, _, hdr⟩ := pat (l := b) (i := i) h
      rw [hdr, if_pos (by omega)]; rfl
    · rw [show b.drop i = [] from List.drop_eq_nil_of_le (by omega), if_neg (by omega)]; rfl
  | succ d ih =>
    intro a b i hl hd hi hb
    refine Evt.step ?_
    simp only [slices_Compare_int_int.l0]
    obtain ⟨x, hx, he, hdr⟩ := pat (l := a) (i := i) (by omega)
    refine Evt.ite_pos (by omega) (Evt.ite_pos (by omega) (Evt.ite_pos (by omega) ?_))
    rw [hdr]
    by_cases h : i < b.length
    · obtain ⟨y, _, hy, hdy⟩ := pat (l := b) (i := i) h
      refine Evt.ite_neg (by omega) (Evt.ite_pos (by omega) ?_)
      rw [rd_at he, rd_at hy, hdy, cmpI_is]
      simp only [Option.bind_some, cmpLst]
      by_cases hz : cmpI x y = 0
      · rw [if_neg (by omega)]
        refine Evt.ite_pos hz ?_
        rw [wrap64_in _ (by omega) (by omega)]
        exact ih a b (i + 1) hl (by omega) (by omega) (by omega)
      · rw [if_pos hz]
        exact Evt.ite_neg hz (Evt.pure _)
    · rw [show b.drop i = [] from List.drop_eq_nil_of_le (by omega)]
      exact Evt.ite_pos (by omega) (Evt.of fun k => rfl)
theorem orI_or (a b : Int) : firstNz [a, b] = orI a b := by
  show orI a (orI b 0) = orI a b
  unfold orI; by_cases h : b = 0 <;> simp [h]
theorem asCmp_ev (a b : List Int) (ha : a.length ≤ 1000) : Evt (fun k => aspath_Compare.f k a b) (cmpIL a b) := by
  unfold aspath_Compare.f
  rw [cmpI_is]
  refine Evt.bindc rfl ?_
  refine Evt.bind (slcCmp_ev a.length a b 0 ha (by omega) (by omega) (by omega)) ?_
  refine Evt.bind (cmpOrF_ev _ (by simp)) ?_
  rw [orI_or]
  exact Evt.pure _
theorem ref04Cmp_ev : ∀ (d : Nat) (a b : List Int) (i : Nat), a.length ≤ 1000 → a.length = b.length → a.length - i = d → i ≤ a.length → Evt (fun k => whirligigref04_Compare.l0 k a b (i : Int)) (cmpLst cmpI (a.drop i) (b.drop i)) := by
  intro d
  induction d with
  | zero =>
    intro a b i hl he hd hi
    refine Evt.step ?_
    simp only [whirligigref04_Compare.l0]
    refine Evt.ite_neg (by omega) (Evt.of fun k => ?_)
    rw [show a.drop i = [] from List.drop_eq_nil_of_le (by omega), show b.drop i = [] from List.drop_eq_nil_of_le (by omega)]; rfl
  | succ d ih =>
    intro a b i hl hab hd hi
    refine Evt.step ?_
    simp only [whirligigref04_Compare.l0]
    obtain ⟨x, hx, he, hdr⟩ := pat (l := a) (i := i) (by omega)
    obtain ⟨y, _, hy, hdy⟩ := pat (l := b) (i := i) (by omega)
    refine Evt.ite_pos (by omega) (Evt.ite_pos (by omega) (Evt.ite_pos (by omega) ?_))
    rw [hdr, hdy, rd_at he, rd_at hy]
    simp only [cmpLst]
    by_cases h1 : x < y
    · rw [show cmpI x y = -1 from by simp [cmpI, h1]]
      exact Evt.ite_pos h1 (Evt.of fun k => rfl)
    · refine Evt.ite_neg h1 ?_
      by_cases h2 : x > y
      · rw [show cmpI x y = 1 from by unfold cmpI; rw [if_neg h1, if_pos h2]]
        exact Evt.ite_pos h2 (Evt.of fun k => rfl)
      · rw [show cmpI x y = 0 from by unfold cmpI; rw [if_neg h1, if_neg h2]]
        refine Evt.ite_neg h2 ?_
        rw [wrap64_in _ (by omega) (by omega)]
        exact ih a b (i + 1) hl hab (by omega) (by omega)
theorem refAs_ev (a b : List Int) (ha : a.length ≤ 1000) : Evt (fun k => whirligigref04_Compare.f k a b) (cmpIL a b) := by
  unfold whirligigref04_Compare.f cmpIL orI
  by_cases h : (a.length : Int) = (b.length : Int)
  · rw [cmpI_zero.2 h]
    exact Evt.ite_pos h (ref04Cmp_ev a.length a b 0 ha (by omega) (by omega) (by omega))
  · refine Evt.ite_neg h ?_
    by_cases h2 : (a.length : Int) < (b.length : Int)
    · rw [show cmpI (a.length : Int) (b.length : Int) = -1 from by simp [cmpI]; omega]
      exact Evt.ite_pos h2 (Evt.of fun k => rfl)
    · rw [show cmpI (a.length : Int) (b.length : Int) = 1 from by unfold cmpI; rw [if_neg h2, if_pos (by omega)]]
      exact Evt.ite_neg h2 (Evt.of fun k => rfl)
theorem before_is (a b c d : Int) : whirligigref03_Before.f a b c d = some (decide (orI (cmpI a c) (cmpI b d) < 0)) := by
  unfold whirligigref03_Before.f
  by_cases h : a < c
  · rw [if_pos h, show cmpI a c = -1 from by simp [cmpI, h]]; rfl
  · rw [if_neg h]
    by_cases h2 : a = c
    · rw [if_pos h2, cmpI_zero.2 h2]
      unfold orI cmpI
      by_cases h3 : b < d
      · simp [h3]
      · simp [h3]; split <;> omega
    · rw [if_neg h2, show cmpI a c = 1 from by unfold cmpI; rw [if_neg h, if_pos (by omega)]]; rfl
theorem ref03Cmp_ev : ∀ (d : Nat) (a b : List S63) (i : Nat), a.length ≤ 1000 → a.length = b.length → a.length - i = d → i ≤ a.length → Evt (fun k => whirligigref03_Compare.l0 k a b (i : Int)) (cmpLst ordC (a.drop i) (b.drop i)) := by
  intro d
  induction d with
  | zero =>
    intro a b i hl he hd hi
    refine Evt.step ?_
    simp only [whirligigref03_Compare.l0]
    refine Evt.ite_neg (by omega) (Evt.of fun k => ?_)
    rw [show a.drop i = [] from List.drop_eq_nil_of_le (by omega), show b.drop i = [] from List.drop_eq_nil_of_le (by omega)]; rfl
  | succ d ih =>
    intro a b i hl hab hd hi
    refine Evt.step ?_
    simp only [whirligigref03_Compare.l0]
    obtain ⟨x, hx, he, hdr⟩ := pat (l := a) (i := i) (by omega)
    obtain ⟨y, _, hy, hdy⟩ := pat (l := b) (i := i) (by omega)
    refine Evt.ite_pos (by omega) (Evt.ite_pos (by omega) (Evt.ite_pos (by omega) ?_))
    rw [hdr, hdy, rdC_at he, rdC_at hy]
    simp only [cmpLst]
    refine Evt.bindc (before_is _ _ _ _) ?_
    have ea : orI (cmpI x.f0 y.f0) (cmpI x.f1 y.f1) = ordC x y := rfl
    have eb : orI (cmpI y.f0 x.f0) (cmpI y.f1 x.f1) = ordC y x := rfl
    rw [ea]
    have tri : ordC x y = -1 ∨ ordC x y = 0 ∨ ordC x y = 1 := by
      unfold ordC orI
      by_cases h : cmpI x.f0 y.f0 ≠ 0
      · rw [if_pos h]; exact cmpI_tri _ _
      · rw [if_neg h]; exact cmpI_tri _ _
    by_cases h1 : ordC x y < 0
    · rw [if_pos (by omega), show ordC x y = -1 from by omega]
      exact Evt.ite_pos (by simp) (Evt.of fun k => rfl)
    · refine Evt.ite_neg (by simpa using h1) ?_
      refine Evt.bindc (before_is _ _ _ _) ?_
      rw [eb, ordC_ord.1 x y]
      by_cases h2 : 0 < ordC x y
      · rw [if_pos (by omega), show ordC x y = 1 from by omega]
        exact Evt.ite_pos (by simp) (Evt.of fun k => rfl)
      · rw [if_neg (by omega), show ordC x y = 0 from by omega]
        refine Evt.ite_neg (by simp) ?_
        rw [wrap64_in _ (by omega) (by omega)]
        exact ih a b (i + 1) hl hab (by omega) (by omega)
theorem refComm_ev (a b : List S63) (ha : a.length ≤ 1000) : Evt (fun k => whirligigref03_Compare.f k a b) (cmpCL a b) := by
  unfold whirligigref03_Compare.f cmpCL orI
  by_cases h : (a.length : Int) < (b.length : Int)
  · rw [show cmpI (a.length : Int) (b.length : Int) = -1 from by simp [cmpI]; omega]
    exact Evt.ite_pos h (Evt.of fun k => rfl)
  · refine Evt.ite_neg h ?_
    by_cases h2 : (a.length : Int) > (b.length : Int)
    · rw [show cmpI (a.length : Int) (b.length : Int) = 1 from by unfold cmpI; rw [if_neg h, if_pos h2]]
      exact Evt.ite_pos h2 (Evt.of fun k => rfl)
    · rw [show cmpI (a.length : Int) (b.length : Int) = 0 from by unfold cmpI; rw [if_neg h, if_neg h2]]
      exact Evt.ite_neg h2 (ref03Cmp_ev a.length a b 0 ha (by omega) (by omega) (by omega))
end Go.Proofs.Ytnnlbofmlfafhaa.P

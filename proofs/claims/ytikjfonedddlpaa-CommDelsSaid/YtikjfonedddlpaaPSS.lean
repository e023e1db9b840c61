/- Communities in order, each one once: lists that are told by what stands in them. -/
import Derived.Test.YtikjfonedddlpaaHasC
import Derived.Test.YtikjfonedddlpaaPSet
namespace Go.Proofs.Ytikjfonedddlpaa.P
open Go.RowKit Go.Proofs.YtikjfonedddlpaaW.PrintWords Go.Proofs.YtikjfonedddlpaaW.PrintLast Go.Proofs.YtikjfonedddlpaaW.PrintMore
set_option linter.unusedVariables false
set_option linter.unusedSimpArgs false

/-- in order, each one once -/
def SS (l : List S23) : Prop := l.Pairwise fun a b => ordC a b < 0
theorem ordC_lt_trans {a b c : S23} (h1 : ordC a b < 0) (h2 : ordC b c < 0) : ordC a c < 0 := by
  have h3 := ordC_ord.2 a b c (by omega) (by omega)
  rcases Int.lt_or_eq_of_le h3 with h | h
  · exact h
  · have := ordC_ord.zero (a := a) (b := b) (d := c) (by omega) (by omega) h; omega
theorem ordC_lt_ne {a b : S23} (h : ordC a b < 0) : a ≠ b := by
  rintro rfl
  have := ordC_ord.self a
  omega
theorem ordC_tri' (a b : S23) : ordC a b < 0 ∨ a = b ∨ ordC b a < 0 := by
  have h := ordC_ord.1 a b
  rcases Int.lt_trichotomy (ordC a b) 0 with h1 | h1 | h1
  · exact .inl h1
  · exact .inr (.inl ((ordC_zero a b).1 h1))
  · exact .inr (.inr (by omega))
theorem SS.ext : ∀ {a b : List S23}, SS a → SS b → (∀ x, x ∈ a ↔ x ∈ b) → a = b := by
  intro a
  induction a with
  | nil =>
    intro b _ _ h
    cases b with
    | nil => rfl
    | cons y b => exact absurd ((h y).2 (by simp)) (by simp)
  | cons x a ih =>
    intro b ha hb h
    cases b with
    | nil => exact absurd ((h x).1 (by simp)) (by simp)
    | cons y b =>
      obtain ⟨ha1, ha2⟩ := List.pairwise_cons.1 ha
      obtain ⟨hb1, hb2⟩ := List.pairwise_cons.1 hb
      have hxy : x = y := by
        rcases List.mem_cons.1 ((h x).1 (by simp)) with e | e
        · exact e
        · rcases List.mem_cons.1 ((h y).2 (by simp)) with e2 | e2
          · exact e2.symm
          · have h1 := hb1 x e
            have h2 := ha1 y e2
            have := ordC_ord.1 x y
            omega
      subst hxy
      refine congrArg (x :: ·) (ih ha2 hb2 fun z => ?_)
      constructor
      · intro hz
        rcases List.mem_cons.1 ((h z).1 (by simp [hz])) with e | e
        · exact absurd e.symm (ordC_lt_ne (ha1 z hz))
        · exact e
      · intro hz
        rcases List.mem_cons.1 ((h z).2 (by simp [hz])) with e | e
        · exact absurd e.symm (ordC_lt_ne (hb1 z hz))
        · exact e
theorem SS.filter {l : List S23} (h : SS l) (p : S23 → Bool) : SS (l.filter p) := List.Pairwise.filter p h
theorem ddA_props : ∀ (l : List S23) (p : S23), (∀ x, x ∈ l → ordC p x ≤ 0) → l.Pairwise (fun a b => ordC a b ≤ 0) →
    SS (p :: ddA eqC p l) ∧ ∀ x, x ∈ p :: ddA eqC p l ↔ x ∈ p :: l := by
  intro l
  induction l with
  | nil => intro p _ _; exact ⟨by simp [SS, ddA], fun x => by simp [ddA]⟩
  | cons y l ih =>
    intro p hp hl
    obtain ⟨h1, h2⟩ := List.pairwise_cons.1 hl
    simp only [ddA]
    by_cases e : eqC y p = true
    · have e2 := (eqC_iff y p).1 e
      subst e2
      rw [if_pos e]
      obtain ⟨i1, i2⟩ := ih y (fun x hx => h1 x hx) h2
      refine ⟨i1, fun x => ?_⟩
      rw [i2 x]; simp
    · rw [if_neg e]
      have hne : y ≠ p := fun h => e ((eqC_iff y p).2 h)
      have hlt : ordC p y < 0 := by
        have h3 := hp y (by simp)
        rcases Int.lt_or_eq_of_le h3 with h | h
        · exact h
        · exact absurd ((ordC_zero p y).1 h).symm hne
      obtain ⟨i1, i2⟩ := ih y (fun x hx => h1 x hx) h2
      refine ⟨List.pairwise_cons.2 ⟨fun z hz => ?_, i1⟩, fun x => ?_⟩
      · rcases List.mem_cons.1 hz with rfl | hz
        · exact hlt
        · exact ordC_lt_trans hlt ((List.pairwise_cons.1 i1).1 z hz)
      · rw [List.mem_cons, i2 x, List.mem_cons (a := x) (b := p)]
theorem sortC_le (l : List S23) : (sortC l).Pairwise fun a b => ordC a b ≤ 0 := by
  have key : ∀ a b : S23, (!(ltOf ordC) b a) = true ↔ ordC a b ≤ 0 := by
    intro a b
    have := ordC_ord.1 a b
    unfold ltOf
    rw [Bool.not_eq_true', decide_eq_false_iff_not]
    omega
  have := List.pairwise_mergeSort (le := fun x y : S23 => !(ltOf ordC) y x) (fun a b c h1 h2 => (key a c).2 (ordC_ord.2 a b c ((key a b).1 h1) ((key b c).1 h2)))
    (fun a b => by
      rw [Bool.or_eq_true, key a b, key b a]
      have := ordC_ord.1 a b
      omega) l
  exact this.imp fun {a b} h => (key a b).1 h
theorem sortC_mem (l : List S23) (x : S23) : x ∈ sortC l ↔ x ∈ l := List.mem_mergeSort
theorem dds_props (l : List S23) : SS (dd eqC (sortC l)) ∧ ∀ x, x ∈ dd eqC (sortC l) ↔ x ∈ l := by
  have h1 := sortC_le l
  have h2 := sortC_mem l
  generalize sortC l = s at *
  cases s with
  | nil => exact ⟨by simp [SS, dd], fun x => by rw [← h2 x]; simp [dd]⟩
  | cons p s =>
    obtain ⟨h3, h4⟩ := List.pairwise_cons.1 h1
    obtain ⟨i1, i2⟩ := ddA_props s p h3 h4
    exact ⟨i1, fun x => by rw [← h2 x]; exact i2 x⟩
/-- one more, in its place -/
def insC (c : S23) : List S23 → List S23
  | [] => [c]
  | x :: l => if ordC x c < 0 then x :: insC c l else c :: x :: l
def withC (l : List S23) (c : S23) : List S23 := if inC l c = true then l else insC c l
theorem insC_mem (c : S23) : ∀ (l : List S23) (x : S23), x ∈ insC c l ↔ x = c ∨ x ∈ l := by
  intro l
  induction l with
  | nil => intro x; simp [insC]
  | cons y l ih =>
    intro x
    simp only [insC]
    split
    · rw [List.mem_cons, ih x, List.mem_cons]
      constructor
      · rintro (h | h | h)
        · exact .inr (.inl h)
        · exact .inl h
        · exact .inr (.inr h)
      · rintro (h | h | h)
        · exact .inr (.inl h)
        · exact .inl h
        · exact .inr (.inr h)
    · rw [List.mem_cons]
theorem insC_len (c : S23) : ∀ (l : List S23), (insC c l).length = l.length + 1 := by
  intro l
  induction l with
  | nil => rfl
  | cons y l ih =>
    simp only [insC]
    split
    · simp [ih]
    · simp
theorem insC_SS (c : S23) : ∀ (l : List S23), SS l → c ∉ l → SS (insC c l) := by
  intro l
  induction l with
  | nil => intro _ _; simp [insC, SS]
  | cons y l ih =>
    intro h hc
    obtain ⟨h1, h2⟩ := List.pairwise_cons.1 h
    simp only [insC]
    split
    · rename_i hlt
      refine List.pairwise_cons.2 ⟨fun z hz => ?_, ih h2 (fun h => hc (by simp [h]))⟩
      rcases (insC_mem c l z).1 hz with rfl | hz
      · exact hlt
      · exact h1 z hz
    · rename_i hlt
      have hlt2 : ordC c y < 0 := by
        rcases ordC_tri' y c with h3 | h3 | h3
        · exact absurd h3 hlt
        · exact absurd (by simp [h3]) hc
        · exact h3
      refine List.pairwise_cons.2 ⟨fun z hz => ?_, h⟩
      rcases List.mem_cons.1 hz with rfl | hz
      · exact hlt2
      · exact ordC_lt_trans hlt2 (h1 z hz)
theorem withC_props (l : List S23) (c : S23) (h : SS l) : SS (withC l c) ∧ ∀ x, x ∈ withC l c ↔ x = c ∨ x ∈ l := by
  unfold withC
  by_cases e : inC l c = true
  · rw [if_pos e]
    refine ⟨h, fun x => ⟨.inr, ?_⟩⟩
    rintro (rfl | h)
    · exact (inC_iff _ _).1 e
    · exact h
  · rw [if_neg e]
    exact ⟨insC_SS c l h (fun q => e ((inC_iff _ _).2 q)), insC_mem c l⟩
theorem withC_len (l : List S23) (c : S23) : (withC l c).length ≤ l.length + 1 := by
  unfold withC
  split
  · omega
  · rw [insC_len]; omega
theorem foldC_props : ∀ (m l : List S23), SS l → SS (m.foldl withC l) ∧ ∀ x, x ∈ m.foldl withC l ↔ x ∈ l ∨ x ∈ m := by
  intro m
  induction m with
  | nil => intro l h; exact ⟨h, fun x => by simp⟩
  | cons c m ih =>
    intro l h
    obtain ⟨h1, h2⟩ := withC_props l c h
    obtain ⟨h3, h4⟩ := ih (withC l c) h1
    refine ⟨h3, fun x => ?_⟩
    rw [List.foldl_cons, h4 x, h2 x, List.mem_cons]
    constructor
    · rintro ((h | h) | h)
      · exact .inr (.inl h)
      · exact .inl h
      · exact .inr (.inr h)
    · rintro (h | h | h)
      · exact .inl (.inr h)
      · exact .inl (.inl h)
      · exact .inr h
theorem steps_SS : ∀ (l : List S23) (p : Option S23), stepsB p l = true ↔ ((∀ x, x ∈ l → mayCB x.f0 x.f1 = true) ∧ SS l ∧ ∀ q, p = some q → ∀ x, x ∈ l → ordC q x < 0) := by
  intro l
  induction l with
  | nil => intro p; simp [stepsB, SS]
  | cons a l ih =>
    intro p
    simp only [stepsB, Bool.and_eq_true, ih (some a)]
    constructor
    · rintro ⟨h1, h2, h3, h4, h5⟩
      have h6 : ∀ q, p = some q → ordC q a < 0 := by
        rintro q rfl
        simpa using h2
      refine ⟨fun x hx => ?_, List.pairwise_cons.2 ⟨h5 a rfl, h4⟩, fun q hq x hx => ?_⟩
      · rcases List.mem_cons.1 hx with rfl | hx
        · exact h1
        · exact h3 x hx
      · rcases List.mem_cons.1 hx with rfl | hx
        · exact h6 q hq
        · exact ordC_lt_trans (h6 q hq) (h5 a rfl x hx)
    · rintro ⟨h1, h2, h3⟩
      obtain ⟨h4, h5⟩ := List.pairwise_cons.1 h2
      refine ⟨h1 a (by simp), ?_, fun x hx => h1 x (by simp [hx]), h5, fun q hq => ?_⟩
      · cases p with
        | none => rfl
        | some q => simpa using h3 q rfl a (by simp)
      · cases hq; exact h4
theorem setB_SS (l : List S23) : setB l = true ↔ l.length ≤ 8 ∧ (∀ x, x ∈ l → mayCB x.f0 x.f1 = true) ∧ SS l := by
  unfold setB
  rw [Bool.and_eq_true, steps_SS]
  constructor
  · rintro ⟨h1, h2, h3, _⟩; exact ⟨of_decide_eq_true h1, h2, h3⟩
  · rintro ⟨h1, h2, h3⟩; exact ⟨decide_eq_true h1, h2, h3, fun q hq => by cases hq⟩
end Go.Proofs.Ytikjfonedddlpaa.P

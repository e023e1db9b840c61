/- Of attributes that may be the texts are the same just if they are. -/
import Derived.Test.YtnnlbofmlfafhaaPAttrX
import Derived.Test.YtnnlbofmlfafhaaPAttrC
import Derived.Test.YtnnlbofmlfafhaaPx0
import Derived.Test.YtnnlbofmlfafhaaPx2
namespace Go.Proofs.Ytnnlbofmlfafhaa.P
open Go.RowKit Go.Proofs.YtnnlbofmlfafhaaW.PrintWords Go.Proofs.YtnnlbofmlfafhaaW.PrintLast Go.Proofs.YtnnlbofmlfafhaaW.PrintMore
set_option linter.unusedVariables false
set_option linter.unusedSimpArgs false

theorem spanP (P : UInt8 → Bool) : ∀ (u v s t : List UInt8), (∀ c, c ∈ u → P c = true) → (∀ c, c ∈ v → P c = true) → (∀ c r, s = c :: r → P c = false) → (∀ c r, t = c :: r → P c = false) → u ++ s = v ++ t → u = v ∧ s = t := by
  intro u
  induction u with
  | nil =>
    intro v s t hu hv hs ht h
    cases v with
    | nil => exact ⟨rfl, h⟩
    | cons d v =>
      have := hs d (v ++ t) h
      rw [hv d (by simp)] at this
      exact absurd this (by simp)
  | cons c u ih =>
    intro v s t hu hv hs ht h
    cases v with
    | nil =>
      have := ht c (u ++ s) h.symm
      rw [hu c (by simp)] at this
      exact absurd this (by simp)
    | cons d v =>
      simp only [List.cons_append, List.cons.injEq] at h
      obtain ⟨rfl, h⟩ := h
      obtain ⟨rfl, e⟩ := ih v s t (fun c hc => hu c (by simp [hc])) (fun c hc => hv c (by simp [hc])) hs ht h
      exact ⟨rfl, e⟩
def isW (c : UInt8) : Bool := decide (c ≠ 32) && decide (c ≠ 93)
/-- a word: nothing of it is a blank or a bracket's end -/
def Word (u : List UInt8) : Prop := u ≠ [] ∧ ∀ c, c ∈ u → isW c = true
def flB (l : List (List UInt8)) : List UInt8 := (l.map (32 :: ·)).flatten
theorem flB_off (l : List (List UInt8)) (s : List UInt8) : ∀ c r, flB l ++ 93 :: s = c :: r → isW c = false := by
  intro c r h
  cases l with
  | nil => simp [flB] at h; rw [← h.1]; rfl
  | cons u l => simp [flB] at h; rw [← h.1]; rfl
theorem flB_span : ∀ (us vs : List (List UInt8)) (s t : List UInt8), (∀ u, u ∈ us → Word u) → (∀ u, u ∈ vs → Word u) → flB us ++ 93 :: s = flB vs ++ 93 :: t → us = vs ∧ s = t := by
  intro us
  induction us with
  | nil =>
    intro vs s t _ _ h
    cases vs with
    | nil => simp [flB] at h; exact ⟨rfl, h⟩
    | cons v vs => simp [flB] at h
  | cons u us ih =>
    intro vs s t hu hv h
    cases vs with
    | nil => simp [flB] at h
    | cons v vs =>
      have e1 : flB (u :: us) ++ 93 :: s = 32 :: (u ++ (flB us ++ 93 :: s)) := by simp [flB]
      have e2 : flB (v :: vs) ++ 93 :: t = 32 :: (v ++ (flB vs ++ 93 :: t)) := by simp [flB]
      rw [e1, e2] at h
      simp only [List.cons.injEq, true_and] at h
      obtain ⟨rfl, h2⟩ := spanP isW u v _ _ (hu u (by simp)).2 (hv v (by simp)).2 (flB_off us s) (flB_off vs t) h
      obtain ⟨rfl, e⟩ := ih vs s t (fun x hx => hu x (by simp [hx])) (fun x hx => hv x (by simp [hx])) h2
      exact ⟨rfl, e⟩
theorem jn_span (us vs : List (List UInt8)) (s t : List UInt8) (hu : ∀ u, u ∈ us → Word u) (hv : ∀ u, u ∈ vs → Word u) (h : jn us ++ 93 :: s = jn vs ++ 93 :: t) : us = vs ∧ s = t := by
  have off : ∀ (v : List UInt8) (x y : List UInt8), Word v → 93 :: x = v ++ y → False := by
    intro v x y hv e
    cases v with
    | nil => exact hv.1 rfl
    | cons c v =>
      simp only [List.cons_append, List.cons.injEq] at e
      have := hv.2 c (by simp)
      rw [← e.1] at this
      exact absurd this (by decide)
  cases us with
  | nil =>
    cases vs with
    | nil => simp [jn] at h; exact ⟨rfl, h⟩
    | cons v vs => simp only [jn, List.nil_append, List.append_assoc] at h; exact (off v _ _ (hv v (by simp)) h).elim
  | cons u us =>
    cases vs with
    | nil => simp only [jn, List.nil_append, List.append_assoc] at h; exact (off u _ _ (hu u (by simp)) h.symm).elim
    | cons v vs =>
      have e1 : jn (u :: us) ++ 93 :: s = u ++ (flB us ++ 93 :: s) := by simp [jn, flB]
      have e2 : jn (v :: vs) ++ 93 :: t = v ++ (flB vs ++ 93 :: t) := by simp [jn, flB]
      rw [e1, e2] at h
      obtain ⟨rfl, h2⟩ := spanP isW u v _ _ (hu u (by simp)).2 (hv v (by simp)).2 (flB_off us s) (flB_off vs t) h
      obtain ⟨rfl, e⟩ := flB_span us vs s t (fun x hx => hu x (by simp [hx])) (fun x hx => hv x (by simp [hx])) h2
      exact ⟨rfl, e⟩
theorem isD_W {c : UInt8} (h : isD c = true) : isW c = true := by
  simp only [isD, Bool.and_eq_true, decide_eq_true_eq] at h
  simp only [isW, Bool.and_eq_true, decide_eq_true_eq]
  constructor
  · rintro rfl; simp at h
  · rintro rfl; simp at h
theorem dig_ne (n : Nat) : dig n ≠ [] := by
  by_cases h : n < 10
  · rw [dig_small n h]; simp
  · rw [dig_big n h]; simp
theorem dg_word (n : Int) : Word (dg n) := ⟨dig_ne _, fun c hc => isD_W (dig_isD _ c hc)⟩
theorem cT_word (a b : Int) : Word (cT a b) := by
  unfold cT
  split
  · exact ⟨by simp, by decide⟩
  · split
    · exact ⟨by simp, by decide⟩
    · split
      · exact ⟨by simp, by decide⟩
      · refine ⟨by simp, fun c hc => ?_⟩
        rcases List.mem_append.1 hc with h | h
        · exact (dg_word a).2 c h
        · rcases List.mem_cons.1 h with rfl | h
          · decide
          · exact (dg_word b).2 c h
theorem dg_inj {a b : Int} (ha : 0 ≤ a) (hb : 0 ≤ b) (h : dg a = dg b) : a = b := by
  have := dig_inj h
  omega
theorem dg_first {a : Int} {c : UInt8} {r s : List UInt8} (h : c :: r = dg a ++ s) : isD c = true := by
  have hn : dg a ≠ [] := dig_ne _
  cases e : dg a with
  | nil => exact absurd e hn
  | cons d t =>
    rw [e] at h
    simp only [List.cons_append, List.cons.injEq] at h
    rw [h.1]
    exact dig_isD a.toNat d (by show d ∈ dg a; rw [e]; simp)
theorem cT_inj {a b c d : Int} (h1 : mayCB a b = true) (h2 : mayCB c d = true) (h : cT a b = cT c d) : a = c ∧ b = d := by
  obtain ⟨p1, p2, p3, p4⟩ := mayCB_iff.1 h1
  obtain ⟨q1, q2, q3, q4⟩ := mayCB_iff.1 h2
  unfold cT at h
  by_cases a1 : a = 65535 ∧ b = 65281
  · rw [if_pos a1] at h
    by_cases c1 : c = 65535 ∧ d = 65281
    · omega
    · rw [if_neg c1] at h
      by_cases c2 : c = 65535 ∧ d = 65282
      · rw [if_pos c2] at h; exact absurd h (by decide)
      · rw [if_neg c2] at h
        by_cases c3 : c = 65535 ∧ d = 65283
        · rw [if_pos c3] at h; exact absurd h (by decide)
        · rw [if_neg c3] at h; exact absurd (dg_first h) (by decide)
  · rw [if_neg a1] at h
    by_cases a2 : a = 65535 ∧ b = 65282
    · rw [if_pos a2] at h
      by_cases c1 : c = 65535 ∧ d = 65281
      · rw [if_pos c1] at h; exact absurd h (by decide)
      · rw [if_neg c1] at h
        by_cases c2 : c = 65535 ∧ d = 65282
        · omega
        · rw [if_neg c2] at h
          by_cases c3 : c = 65535 ∧ d = 65283
          · rw [if_pos c3] at h; exact absurd h (by decide)
          · rw [if_neg c3] at h; exact absurd (dg_first h) (by decide)
    · rw [if_neg a2] at h
      by_cases a3 : a = 65535 ∧ b = 65283
      · rw [if_pos a3] at h
        by_cases c1 : c = 65535 ∧ d = 65281
        · rw [if_pos c1] at h; exact absurd h (by decide)
        · rw [if_neg c1] at h
          by_cases c2 : c = 65535 ∧ d = 65282
          · rw [if_pos c2] at h; exact absurd h (by decide)
          · rw [if_neg c2] at h
            by_cases c3 : c = 65535 ∧ d = 65283
            · omega
            · rw [if_neg c3] at h; exact absurd (dg_first h) (by decide)
      · rw [if_neg a3] at h
        by_cases c1 : c = 65535 ∧ d = 65281
        · rw [if_pos c1] at h; exact absurd (dg_first h.symm) (by decide)
        · rw [if_neg c1] at h
          by_cases c2 : c = 65535 ∧ d = 65282
          · rw [if_pos c2] at h; exact absurd (dg_first h.symm) (by decide)
          · rw [if_neg c2] at h
            by_cases c3 : c = 65535 ∧ d = 65283
            · rw [if_pos c3] at h; exact absurd (dg_first h.symm) (by decide)
            · rw [if_neg c3] at h
              obtain ⟨e1, e2⟩ := dig_span (offD_cons _ _ (by decide)) (offD_cons _ _ (by decide)) h
              simp only [List.cons.injEq, true_and] at e2
              have e3 := dig_inj e2
              omega
theorem map_inj_on {α β : Type} (f : α → β) : ∀ (l m : List α), (∀ x, x ∈ l → ∀ y, y ∈ m → f x = f y → x = y) → l.map f = m.map f → l = m := by
  intro l
  induction l with
  | nil => intro m _ h; cases m <;> simp at h ⊢
  | cons x l ih =>
    intro m hi h
    cases m with
    | nil => simp at h
    | cons y m =>
      simp only [List.map_cons, List.cons.injEq] at h
      rw [hi x (by simp) y (by simp) h.1, ih m (fun a ha b hb => hi a (by simp [ha]) b (by simp [hb])) h.2]
theorem dgL_inj {l m : List Int} (h1 : ∀ x, x ∈ l → asB x = true) (h2 : ∀ x, x ∈ m → asB x = true) (h : l.map dg = m.map dg) : l = m :=
  map_inj_on dg l m (fun x hx y hy e => dg_inj (by have := asB_iff.1 (h1 x hx); omega) (by have := asB_iff.1 (h2 y hy); omega) e) h
theorem cTL_inj {l m : List S63} (h1 : ∀ x, x ∈ l → mayCB x.f0 x.f1 = true) (h2 : ∀ x, x ∈ m → mayCB x.f0 x.f1 = true) (h : l.map cTx = m.map cTx) : l = m :=
  map_inj_on cTx l m (fun x hx y hy e => by
    obtain ⟨e1, e2⟩ := cT_inj (h1 x hx) (h2 y hy) e
    cases x; cases y; simp_all) h
theorem words_dg (l : List Int) : ∀ u, u ∈ l.map dg → Word u := fun u hu => by obtain ⟨x, _, rfl⟩ := List.mem_map.1 hu; exact dg_word x
theorem words_cT (l : List S63) : ∀ u, u ∈ l.map cTx → Word u := fun u hu => by obtain ⟨x, _, rfl⟩ := List.mem_map.1 hu; exact cT_word _ _
theorem offD_clT (s : List Int) : offD (clT s) := by
  unfold clT
  by_cases h : s = []
  · rw [if_pos h]; exact offD_nil
  · rw [if_neg h]; exact offD_cons _ _ (by decide)
theorem clT_inj {s t : List Int} (h1 : ∀ x, x ∈ s → asB x = true) (h2 : ∀ x, x ∈ t → asB x = true) (h : clT s = clT t) : s = t := by
  unfold clT at h
  by_cases a : s = []
  · by_cases b : t = []
    · rw [a, b]
    · rw [if_pos a, if_neg b] at h; simp at h
  · by_cases b : t = []
    · rw [if_neg a, if_pos b] at h; simp at h
    · rw [if_neg a, if_neg b] at h
      simp only [List.append_assoc, List.cons_append, List.nil_append, List.cons.injEq, true_and] at h
      exact dgL_inj h1 h2 (jn_span _ _ _ _ (words_dg s) (words_dg t) h).1
theorem end_inj {f g : Int} {s t : List Int} (hf : 0 ≤ f) (hg : 0 ≤ g) (h1 : ∀ x, x ∈ s → asB x = true) (h2 : ∀ x, x ∈ t → asB x = true) (h : frT f ++ clT s = frT g ++ clT t) : f = g ∧ s = t := by
  have no : ∀ (s : List Int) (r : List UInt8), clT s = 32 :: 102 :: r → False := by
    intro s r e
    unfold clT at e
    by_cases a : s = []
    · rw [if_pos a] at e; simp at e
    · rw [if_neg a] at e; simp at e
  unfold frT at h
  by_cases a : f = 0
  · by_cases b : g = 0
    · rw [if_pos a, if_pos b] at h
      exact ⟨by omega, clT_inj h1 h2 h⟩
    · rw [if_pos a, if_neg b] at h
      exact (no s _ h).elim
  · by_cases b : g = 0
    · rw [if_neg a, if_pos b] at h
      exact (no t _ h.symm).elim
    · rw [if_neg a, if_neg b] at h
      simp only [List.append_assoc, List.cons_append, List.nil_append, List.cons.injEq, true_and] at h
      obtain ⟨e1, e2⟩ := dig_span (offD_clT s) (offD_clT t) h
      exact ⟨by omega, clT_inj h1 h2 e2⟩
theorem oT_span {o q : Int} {s t : List UInt8} (h1 : 0 ≤ o ∧ o ≤ 2) (h2 : 0 ≤ q ∧ q ≤ 2) (h : oT o ++ s = oT q ++ t) : o = q ∧ s = t := by
  rcases (by omega : o = 0 ∨ o = 1 ∨ o = 2) with rfl | rfl | rfl <;> rcases (by omega : q = 0 ∨ q = 1 ∨ q = 2) with rfl | rfl | rfl <;> simp [oT] at h ⊢ <;> exact h
def mayX (x : S30) : Bool := mayAB x.f0 x.f1 x.f2 x.f3 x.f4 x.f5 x.f6
def atX (x : S30) : List UInt8 := atT x.f0 x.f1 x.f2 x.f3 x.f4 x.f5 x.f6
theorem atX_inj {x y : S30} (hx : mayX x = true) (hy : mayX y = true) (h : atX x = atX y) : x = y := by
  obtain ⟨p1, m1, o1, f1, l1, c1, s1⟩ := mayAB_iff hx
  obtain ⟨p2, m2, o2, f2, l2, c2, s2⟩ := mayAB_iff hy
  unfold atX atT at h
  simp only [List.append_assoc, List.cons_append, List.nil_append, List.cons.injEq, true_and] at h
  obtain ⟨e1, h⟩ := dig_span (offD_cons _ _ (by decide)) (offD_cons _ _ (by decide)) h
  simp only [List.cons.injEq, true_and] at h
  obtain ⟨e2, h⟩ := dig_span (offD_cons _ _ (by decide)) (offD_cons _ _ (by decide)) h
  simp only [List.cons.injEq, true_and] at h
  obtain ⟨e3, h⟩ := oT_span o1 o2 h
  simp only [List.cons.injEq, true_and] at h
  obtain ⟨e4, h⟩ := jn_span _ _ _ _ (words_dg _) (words_dg _) h
  simp only [List.cons.injEq, true_and] at h
  obtain ⟨e5, h⟩ := jn_span _ _ _ _ (words_cT _) (words_cT _) h
  obtain ⟨e6, e7⟩ := end_inj f1.1 f2.1 (clustB_iff s1).2 (clustB_iff s2).2 h
  have e4 := dgL_inj (pathB_iff.1 l1).2 (pathB_iff.1 l2).2 e4
  have e5 := cTL_inj (setB_iff c1).2 (setB_iff c2).2 e5
  have e1 : x.f0 = y.f0 := by omega
  have e2 : x.f1 = y.f1 := by omega
  cases x; cases y; simp_all
end Go.Proofs.Ytnnlbofmlfafhaa.P

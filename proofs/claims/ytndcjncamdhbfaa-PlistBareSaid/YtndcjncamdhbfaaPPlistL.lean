/- Lists of rules: what the program's and the document's functions come to, in lists alone. -/
import Derived.Test.YtndcjncamdhbfaaPPlist
import Derived.Test.YtndcjncamdhbfaaPx0
import Derived.Test.YtndcjncamdhbfaaPx10
import Derived.Test.YtndcjncamdhbfaaPx6
import Derived.Test.YtndcjncamdhbfaaPx9
set_option linter.unusedVariables false
set_option linter.unusedSimpArgs false
namespace Go.Proofs.Ytndcjncamdhbfaa.P
open Go.RowKit Go.Proofs.YtndcjncamdhbfaaW.PrintWords Go.Proofs.YtndcjncamdhbfaaW.PrintLast Go.Proofs.YtndcjncamdhbfaaW.PrintMore

/-- a rule's bounds, as they come in -/
def inR (x : S26) : Prop := isA x.f0.f0
def rB (x : S26) : Bool := ruleB x.f0.f0 x.f0.f1 x.f1 x.f2
def mB (c d : Int) (x : S26) : Bool := metB x.f0.f0 x.f0.f1 x.f1 x.f2 c d
/-- why rules are no list -/
def whyL (l : List S26) : Int := if 16 < l.length then 2 else if l.all rB then 0 else 1
theorem drop_at {α : Type} {l : List α} {i : Nat} (h : i < l.length) : ∃ x, x ∈ l ∧ l[i]? = some x ∧ l.drop i = x :: l.drop (i + 1) :=
  ⟨l[i], List.getElem_mem h, List.getElem?_eq_getElem h, List.drop_eq_getElem_cons h⟩
theorem rdR_at {l : List S26} {i : Nat} {x : S26} (h : l[i]? = some x) : rd_T26 l (i : Int) = x := by
  unfold rd_T26
  rw [Int.toNat_natCast, List.getD_eq_getElem?_getD, h]; rfl
theorem may2Loop_ev : ∀ (d : Nat) (l : List S26) (i : Nat), (∀ x, x ∈ l → inR x) → l.length ≤ 16 → l.length - i = d → i ≤ l.length → Evt (fun k => plist_May.l0 k l (l.length : Int) (i : Int)) (if (l.drop i).all rB then 0 else 1) := by
  intro d
  induction d with
  | zero =>
    intro l i ho hl hd hi
    refine Evt.step ?_
    simp only [plist_May.l0]
    refine Evt.ite_neg (by omega) (Evt.of fun k => ?_)
    rw [List.drop_eq_nil_of_le (by omega)]; rfl
  | succ d ih =>
    intro l i ho hl hd hi
    refine Evt.step ?_
    simp only [plist_May.l0]
    obtain ⟨x, hx, he, hdr⟩ := drop_at (l := l) (i := i) (by omega)
    refine Evt.ite_pos (by omega) (Evt.ite_pos (by omega) (Evt.ite_pos (by omega) ?_))
    rw [rdR_at he, hdr]
    refine Evt.bindc (may2_is _ _ _ _ _ (ho x hx)) ?_
    by_cases hb : rB x = true
    · refine Evt.ite_pos hb ?_
      rw [wrap64_in _ (by omega) (by omega), List.all_cons, hb, Bool.true_and]
      have := ih l (i + 1) ho hl (by omega) (by omega)
      exact this
    · refine Evt.ite_neg hb (Evt.of fun k => ?_)
      simp at hb
      rw [List.all_cons, hb, Bool.false_and]; rfl
theorem whyLoop_ev : ∀ (d : Nat) (l : List S26) (i : Nat), (∀ x, x ∈ l → inR x) → l.length ≤ 16 → l.length - i = d → i ≤ l.length → Evt (fun k => whirligigref02_Why.l0 k l (i : Int)) (if (l.drop i).all rB then 0 else 1) := by
  intro d
  induction d with
  | zero =>
    intro l i ho hl hd hi
    refine Evt.step ?_
    simp only [whirligigref02_Why.l0]
    refine Evt.ite_neg (by omega) (Evt.of fun k => ?_)
    rw [List.drop_eq_nil_of_le (by omega)]; rfl
  | succ d ih =>
    intro l i ho hl hd hi
    refine Evt.step ?_
    simp only [whirligigref02_Why.l0]
    obtain ⟨x, hx, he, hdr⟩ := drop_at (l := l) (i := i) (by omega)
    refine Evt.ite_pos (by omega) (Evt.ite_pos (by omega) ?_)
    rw [rdR_at he, hdr]
    refine Evt.bind (refMay2_ev _ _ _ _ _ (ho x hx)) ?_
    by_cases hb : rB x = true
    · refine Evt.ite_pos hb ?_
      rw [wrap64_in _ (by omega) (by omega), List.all_cons, hb, Bool.true_and]
      have := ih l (i + 1) ho hl (by omega) (by omega)
      exact this
    · refine Evt.ite_neg hb (Evt.of fun k => ?_)
      simp at hb
      rw [List.all_cons, hb, Bool.false_and]; rfl
theorem plistMay_ev (l : List S26) (ho : ∀ x, x ∈ l → inR x) : Evt (fun k => plist_May.f k l) (whyL l) := by
  unfold plist_May.f whyL
  by_cases h : 16 < l.length
  · rw [if_pos h]; exact Evt.ite_pos (by omega) (Evt.pure _)
  · rw [if_neg h]
    refine Evt.ite_neg (by omega) ?_
    exact may2Loop_ev l.length l 0 ho (by omega) (by omega) (by omega)
theorem refWhy_ev (l : List S26) (ho : ∀ x, x ∈ l → inR x) : Evt (fun k => whirligigref02_Why.f k l) (whyL l) := by
  unfold whirligigref02_Why.f whyL
  by_cases h : 16 < l.length
  · rw [if_pos h]; exact Evt.ite_pos (by omega) (Evt.pure _)
  · rw [if_neg h]
    refine Evt.ite_neg (by omega) ?_
    exact whyLoop_ev l.length l 0 ho (by omega) (by omega) (by omega)
theorem whyL_ok {l : List S26} (h : whyL l = 0) : l.length ≤ 16 ∧ ∀ x, x ∈ l → rB x = true := by
  unfold whyL at h
  split at h
  · cases h
  · split at h
    · rename_i h2; exact ⟨by omega, List.all_eq_true.1 h2⟩
    · cases h
theorem whyL_of {l : List S26} (h : l.length ≤ 16) (h2 : ∀ x, x ∈ l → rB x = true) : whyL l = 0 := by
  unfold whyL; rw [if_neg (by omega), if_pos (List.all_eq_true.2 h2)]
/-- the first rule that is met -/
def firL (l : List S26) (c d : Int) : Int := idxB (mB c d) l
theorem first_is (l : List S26) (c d : Int) (ho : ∀ x, x ∈ l → inR x) (hc : isA c) : plist_first.f l c d = some (firL l c d) := by
  unfold plist_first.f
  have hm : ∀ x, x ∈ l → plist_met.f (x.f0.f0) (x.f0.f1) (x.f1) (x.f2) (x.f3) c d = some (mB c d x) := fun x hx => met_is _ _ _ _ _ c d (ho x hx) hc
  rw [if_pos (List.all_eq_true.2 fun x hx => by rw [hm x hx]; rfl)]
  have : idxB (plist_first.p c d) l = idxB (mB c d) l := by
    unfold idxB
    have e : l.findIdx? (plist_first.p c d) = l.findIdx? (mB c d) := by
      have hp : ∀ x, x ∈ l → plist_first.p c d x = mB c d x := fun x hx => by unfold plist_first.p; rw [hm x hx]; rfl
      clear hm ho
      induction l with
      | nil => rfl
      | cons y l ih => rw [List.findIdx?_cons, List.findIdx?_cons, hp y (by simp), ih (fun x hx => hp x (by simp [hx]))]
    rw [e]
  rw [this]; rfl
theorem refFirstLoop_ev : ∀ (n : Nat) (l : List S26) (i : Nat) (c d : Int), (∀ x, x ∈ l → inR x) → (∀ x, x ∈ l → rB x = true) → isA c → l.length ≤ 16 → l.length - i = n → i ≤ l.length →
    (∀ (j : Nat) (y : S26), j < i → l[j]? = some y → mB c d y = false) → Evt (fun k => whirligigref02_First.l0 k l (i : Int) c d) (firL l c d) := by
  intro n
  induction n with
  | zero =>
    intro l i c d ho hr hc hl hd hi hall
    refine Evt.step ?_
    simp only [whirligigref02_First.l0]
    refine Evt.ite_neg (by omega) (Evt.of fun k => ?_)
    unfold firL
    rw [idxB_none _ _ (fun j y hy => hall j y (by have := (List.getElem?_eq_some_iff.1 hy).1; omega) hy)]
  | succ n ih =>
    intro l i c d ho hr hc hl hd hi hall
    refine Evt.step ?_
    simp only [whirligigref02_First.l0]
    obtain ⟨x, hx, he, hdr⟩ := drop_at (l := l) (i := i) (by omega)
    refine Evt.ite_pos (by omega) (Evt.ite_pos (by omega) ?_)
    rw [rdR_at he]
    refine Evt.bind (refMet_ev _ _ _ _ _ c d (ho x hx) hc) ?_
    have hrx : ruleB x.f0.f0 x.f0.f1 x.f1 x.f2 = true := hr x hx
    rw [hrx, Bool.true_and]
    by_cases hb : mB c d x = true
    · refine Evt.ite_pos hb (Evt.of fun k => ?_)
      unfold firL
      rw [idxB_at _ _ i x he hb hall]
    · refine Evt.ite_neg hb ?_
      rw [wrap64_in _ (by omega) (by omega)]
      have := ih l (i + 1) c d ho hr hc hl (by omega) (by omega) (fun j y hj hy => by
        by_cases h : j < i
        · exact hall j y h hy
        · obtain rfl : j = i := by omega
          rw [he] at hy; cases hy; simpa using hb)
      exact this
theorem refFirst_ev (l : List S26) (c d : Int) (ho : ∀ x, x ∈ l → inR x) (hw : whyL l = 0) (hc : isA c) : Evt (fun k => whirligigref02_First.f k l c d) (firL l c d) := by
  obtain ⟨h1, h2⟩ := whyL_ok hw
  exact refFirstLoop_ev l.length l 0 c d ho h2 hc h1 (by omega) (by omega) (fun j y hj => by omega)
theorem firL_at (l : List S26) (c d : Int) (h : 0 ≤ firL l c d) : ∃ x, l[(firL l c d).toNat]? = some x ∧ (firL l c d).toNat < l.length ∧ mB c d x = true := by
  unfold firL idxB at *
  cases e : l.findIdx? (mB c d) with
  | none => rw [e] at h; exact absurd h (by decide)
  | some i =>
    obtain ⟨hi, hp, _⟩ := List.findIdx?_eq_some_iff_getElem.1 e
    exact ⟨l[i], List.getElem?_eq_getElem hi, hi, hp⟩
/-- does a list let a prefix pass, and by which rule? -/
def letsL (l : List S26) (c d : Int) : Bool × Int :=
  if whyL l = 0 then (if mayB c d then (if 0 ≤ firL l c d then ((rd_T26 l (firL l c d)).f3, firL l c d) else (false, firL l c d)) else (false, -1)) else (false, -1)
theorem letsL_0 (l : List S26) (c d : Int) (hw : ¬ whyL l = 0) : letsL l c d = (false, -1) := by unfold letsL; rw [if_neg hw]
theorem letsL_1 (l : List S26) (c d : Int) (hw : whyL l = 0) (hm : ¬ mayB c d = true) : letsL l c d = (false, -1) := by unfold letsL; rw [if_pos hw, if_neg hm]
theorem letsL_2 (l : List S26) (c d : Int) (hw : whyL l = 0) (hm : mayB c d = true) (hf : ¬ 0 ≤ firL l c d) : letsL l c d = (false, firL l c d) := by unfold letsL; rw [if_pos hw, if_pos hm, if_neg hf]
theorem letsL_3 (l : List S26) (c d : Int) (hw : whyL l = 0) (hm : mayB c d = true) (hf : 0 ≤ firL l c d) : letsL l c d = ((rd_T26 l (firL l c d)).f3, firL l c d) := by unfold letsL; rw [if_pos hw, if_pos hm, if_pos hf]
theorem lets_ev (l : List S26) (c d : Int) (ho : ∀ x, x ∈ l → inR x) (hc : isA c) : Evt (fun k => plist_Lets.f k l c d) (letsL l c d) := by
  unfold plist_Lets.f
  refine Evt.bind (plistMay_ev l ho) ?_
  by_cases hw : whyL l = 0
  · refine Evt.ite_pos hw (Evt.bindc (may_is c d hc) ?_)
    by_cases hm : mayB c d = true
    · refine Evt.ite_pos hm (Evt.bindc (first_is l c d ho hc) ?_)
      by_cases hf : 0 ≤ firL l c d
      · rw [letsL_3 l c d hw hm hf]
        obtain ⟨x, _, hx, _⟩ := firL_at l c d hf
        exact Evt.ite_pos hf (Evt.ite_pos hf (Evt.ite_pos (by omega) (Evt.pure _)))
      · rw [letsL_2 l c d hw hm hf]; exact Evt.ite_neg hf (Evt.pure _)
    · rw [letsL_1 l c d hw hm]; exact Evt.ite_neg hm (Evt.pure _)
  · rw [letsL_0 l c d hw]; exact Evt.ite_neg hw (Evt.pure _)
theorem refLets_ev (l : List S26) (c d : Int) (ho : ∀ x, x ∈ l → inR x) (hc : isA c) : Evt (fun k => whirligigref02_Lets.f k l c d) (letsL l c d) := by
  unfold whirligigref02_Lets.f
  refine Evt.bind (refWhy_ev l ho) ?_
  by_cases hw : whyL l = 0
  · refine Evt.ite_pos hw (Evt.bind (refMay_ev c d hc) ?_)
    by_cases hm : mayB c d = true
    · refine Evt.ite_pos hm (Evt.bind (refFirst_ev l c d ho hw hc) ?_)
      by_cases hf : 0 ≤ firL l c d
      · rw [letsL_3 l c d hw hm hf]
        obtain ⟨x, _, hx, _⟩ := firL_at l c d hf
        exact Evt.ite_pos hf (Evt.ite_pos hf (Evt.ite_pos (by omega) (Evt.pure _)))
      · rw [letsL_2 l c d hw hm hf]; exact Evt.ite_neg hf (Evt.pure _)
    · rw [letsL_1 l c d hw hm]; exact Evt.ite_neg hm (Evt.pure _)
  · rw [letsL_0 l c d hw]; exact Evt.ite_neg hw (Evt.pure _)
end Go.Proofs.Ytndcjncamdhbfaa.P

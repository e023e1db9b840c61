/- What chapter 03's functions come to, in lists and numbers alone. -/
import Derived.Test.YtikjfonedddlpaaPSS
import Derived.Test.YtikjfonedddlpaaPComm
import Derived.Test.YtikjfonedddlpaaPx0
import Derived.Test.YtikjfonedddlpaaPx14
import Derived.Test.YtikjfonedddlpaaPx16
import Derived.Test.YtikjfonedddlpaaPx17
import Derived.Test.YtikjfonedddlpaaPx18
import Derived.Test.YtikjfonedddlpaaPx21
import Derived.Test.YtikjfonedddlpaaPx22
import Derived.Test.YtikjfonedddlpaaPx26
import Derived.Test.YtikjfonedddlpaaPx27
import Derived.Test.YtikjfonedddlpaaPx28
import Derived.Test.YtikjfonedddlpaaPx5
import Derived.Test.YtikjfonedddlpaaPx6
import Derived.Test.YtikjfonedddlpaaPx9
namespace Go.Proofs.Ytikjfonedddlpaa.P
open Go.RowKit Go.Proofs.YtikjfonedddlpaaW.PrintWords Go.Proofs.YtikjfonedddlpaaW.PrintLast Go.Proofs.YtikjfonedddlpaaW.PrintMore
set_option linter.unusedVariables false
set_option linter.unusedSimpArgs false

theorem few3_is (l : List S23) : whirligiglaw03_few.f l = some (decide (l.length ≤ 200)) := by
  unfold whirligiglaw03_few.f
  exact congrArg some (decide_eq_decide.2 (by omega))
theorem patC {l : List S23} {i : Nat} (h : i < l.length) : ∃ x, l[i]? = some x ∧ l.drop i = x :: l.drop (i + 1) ∧ rd_T23 l (i : Int) = x := by
  refine ⟨l[i], List.getElem?_eq_getElem h, List.drop_eq_getElem_cons h, ?_⟩
  unfold rd_T23
  rw [Int.toNat_natCast, List.getD_eq_getElem?_getD, List.getElem?_eq_getElem h]; rfl
theorem sameL_ev : ∀ (d : Nat) (a b : List S23) (i : Nat), a.length ≤ 1000 → a.length = b.length → a.length - i = d → i ≤ a.length → Evt (fun k => whirligigref03_Same.l0 k a b (i : Int)) (decide (a.drop i = b.drop i)) := by
  intro d
  induction d with
  | zero =>
    intro a b i hl he hd hi
    refine Evt.step ?_
    simp only [whirligigref03_Same.l0]
    refine Evt.ite_neg (by omega) (Evt.of fun k => ?_)
    rw [List.drop_eq_nil_of_le (by omega), List.drop_eq_nil_of_le (by omega)]; simp
  | succ d ih =>
    intro a b i hl hab hd hi
    refine Evt.step ?_
    simp only [whirligigref03_Same.l0]
    obtain ⟨x, hx, hdx, rx⟩ := patC (l := a) (i := i) (by omega)
    obtain ⟨y, hy, hdy, ry⟩ := patC (l := b) (i := i) (by omega)
    refine Evt.ite_pos (by omega) (Evt.ite_pos (by omega) (Evt.ite_pos (by omega) ?_))
    rw [rx, ry, hdx, hdy]
    by_cases e : x = y
    · subst e
      refine Evt.ite_neg (by simp) ?_
      rw [wrap64_in _ (by omega) (by omega)]
      refine (ih a b (i + 1) hl hab (by omega) (by omega)).imp fun K hK k hk => (hK k hk).trans ?_
      simp
    · refine Evt.ite_pos ?_ (Evt.of fun k => ?_)
      · have : ¬ (x.f0 = y.f0 ∧ x.f1 = y.f1) := fun h => e (by cases x; cases y; simp_all)
        by_cases e0 : x.f0 = y.f0
        · have : x.f1 ≠ y.f1 := fun h => this ⟨e0, h⟩
          simp [e0, this]
        · simp [e0]
      · rw [decide_eq_false (by simp [e])]
theorem same_ev (a b : List S23) (ha : a.length ≤ 1000) : Evt (fun k => whirligigref03_Same.f k a b) (decide (a = b)) := by
  unfold whirligigref03_Same.f
  by_cases h : a.length = b.length
  · have := sameL_ev a.length a b 0 ha h (by omega) (by omega)
    exact Evt.ite_pos (by omega) this
  · refine Evt.ite_neg (by omega) (Evt.of fun k => ?_)
    rw [decide_eq_false (fun e => h (by rw [e]))]
theorem orI_tri {a b : Int} (ha : a = -1 ∨ a = 0 ∨ a = 1) (hb : b = -1 ∨ b = 0 ∨ b = 1) : orI a b = -1 ∨ orI a b = 0 ∨ orI a b = 1 := by unfold orI; split <;> assumption
theorem cmpLst_tri {α : Type} (c : α → α → Int) (h : ∀ a b, c a b = -1 ∨ c a b = 0 ∨ c a b = 1) : ∀ a b : List α, cmpLst c a b = -1 ∨ cmpLst c a b = 0 ∨ cmpLst c a b = 1 := by
  intro a
  induction a with
  | nil => intro b; cases b <;> simp [cmpLst]
  | cons x a ih =>
    intro b
    cases b with
    | nil => simp [cmpLst]
    | cons y b =>
      simp only [cmpLst]
      split
      · exact h x y
      · exact ih b
theorem cmpCL_tri (a b : List S23) : cmpCL a b = -1 ∨ cmpCL a b = 0 ∨ cmpCL a b = 1 := by
  unfold cmpCL
  exact orI_tri (cmpI_tri _ _) (cmpLst_tri _ (fun a b => orI_tri (cmpI_tri _ _) (cmpI_tri _ _)) _ _)
theorem refIn_ev : ∀ (d : Nat) (l : List S23) (x : S23) (i : Nat), l.length ≤ 1000 → l.length - i = d → i ≤ l.length → Evt (fun k => whirligigref03_In.l0 k l (i : Int) x.f0 x.f1) (inC (l.drop i) x) := by
  intro d
  induction d with
  | zero =>
    intro l x i hl hd hi
    refine Evt.step ?_
    simp only [whirligigref03_In.l0]
    refine Evt.ite_neg (by omega) (Evt.of fun k => ?_)
    rw [List.drop_eq_nil_of_le (by omega)]; rfl
  | succ d ih =>
    intro l x i hl hd hi
    refine Evt.step ?_
    simp only [whirligigref03_In.l0]
    obtain ⟨y, _, hy, hdy⟩ := pat (l := l) (i := i) (by omega)
    refine Evt.ite_pos (by omega) (Evt.ite_pos (by omega) ?_)
    rw [rdC_at hy, hdy]
    show Evt _ (eqC y x || inC (l.drop (i + 1)) x)
    by_cases e : eqC y x = true
    · refine Evt.ite_pos e (Evt.of fun k => ?_)
      rw [e, Bool.true_or]
    · refine Evt.ite_neg e ?_
      rw [Bool.eq_false_iff.mpr e, Bool.false_or, wrap64_in _ (by omega) (by omega)]
      exact ih l x (i + 1) hl (by omega) (by omega)
theorem refInF_ev (l : List S23) (x : S23) (hl : l.length ≤ 1000) : Evt (fun k => whirligigref03_In.f k l x.f0 x.f1) (inC l x) := refIn_ev l.length l x 0 hl (by omega) (by omega)
theorem has_ev (l : List S23) (x : S23) (hl : l.length ≤ 1000) : Evt (fun k => comm_Has.f k l x.f0 x.f1) (setB l && inC l x) := by
  unfold comm_Has.f
  exact Evt.ite_pos (by omega) (Evt.bind (commSet_ev l (by omega)) (Evt.pure _))
def textsL (l : List S23) : List UInt8 := if setB l = true then jn (l.map cTx) else []
theorem texts_ev (l : List S23) (hl : l.length ≤ 1000) : Evt (fun k => comm_Texts.f k l) (tx (textsL l)) := by
  unfold textsL
  by_cases h : setB l = true
  · rw [if_pos h]; exact commTexts_ev l h
  · rw [if_neg h]
    unfold comm_Texts.f
    exact Evt.bind (commSet_ev l (by omega)) (Evt.ite_neg h (Evt.pure _))
theorem refTexts_ev (l : List S23) (hl : l.length ≤ 1000) : Evt (fun k => whirligigref03_Texts.f k l) (tx (textsL l)) := by
  unfold textsL
  by_cases h : setB l = true
  · rw [if_pos h]; exact refCommTexts_ev l h
  · rw [if_neg h]
    unfold whirligigref03_Texts.f
    exact Evt.bind (refSet_ev l (by omega)) (Evt.ite_neg h (Evt.pure _))
def delR (l0 l1 : List S23) : List S23 × Int := if setB l0 = true then (l0.filter (fun x => !inC l1 x), 0) else ([], 1)
theorem del_ev (l0 l1 : List S23) (h : l0.length ≤ 1000) : Evt (fun k => comm_Del.f k l0 l1) (delR l0 l1) := by
  unfold comm_Del.f delR
  refine Evt.bind (commSet_ev l0 (by omega)) ?_
  by_cases e : setB l0 = true
  · rw [if_pos e, if_pos e]; exact Evt.ite_pos (by omega) (Evt.pure _)
  · rw [if_neg e, if_neg e]; exact Evt.pure _
def bothR (l0 l1 : List S23) : List S23 × Int := if setB l0 = true then (if setB l1 = true then (l0.filter (fun x => inC l1 x), 0) else ([], 1)) else ([], 1)
theorem both_ev (l0 l1 : List S23) (h0 : l0.length ≤ 1000) (h1 : l1.length ≤ 1000) : Evt (fun k => comm_Both.f k l0 l1) (bothR l0 l1) := by
  unfold comm_Both.f bothR
  refine Evt.bind (commSet_ev l0 (by omega)) ?_
  by_cases e : setB l0 = true
  · rw [if_pos e]
    refine Evt.ite_pos e (Evt.bind (commSet_ev l1 (by omega)) ?_)
    by_cases e1 : setB l1 = true
    · rw [if_pos e1, if_pos e1]; exact Evt.ite_pos (by omega) (Evt.pure _)
    · rw [if_neg e1, if_neg e1]; exact Evt.pure _
  · rw [if_neg e]; exact Evt.ite_neg e (Evt.pure _)
theorem keepL_ev : ∀ (d : Nat) (l m : List S23) (b : Bool) (i : Nat), l.length ≤ 1000 → m.length ≤ 1000 → l.length - i = d → i ≤ l.length →
    Evt (fun k => whirligigref03_Keep.l0 k l m b ((l.take i).filter fun x => inC m x == b) (i : Int)) (l.filter fun x => inC m x == b) := by
  intro d
  induction d with
  | zero =>
    intro l m b i hl hm hd hi
    refine Evt.step ?_
    simp only [whirligigref03_Keep.l0]
    refine Evt.ite_neg (by omega) (Evt.of fun k => ?_)
    rw [List.take_of_length_le (by omega)]
  | succ d ih =>
    intro l m b i hl hm hd hi
    refine Evt.step ?_
    simp only [whirligigref03_Keep.l0]
    obtain ⟨y, _, hy, _⟩ := pat (l := l) (i := i) (by omega)
    refine Evt.ite_pos (by omega) (Evt.ite_pos (by omega) ?_)
    rw [rdC_at hy]
    refine Evt.bind (refInF_ev m y hm) ?_
    have hn := ih l m b (i + 1) hl hm (by omega) (by omega)
    rw [filter_snoc _ l i y hy] at hn
    have hlen : ((l.take i).filter fun x => inC m x == b).length ≤ 1000 := by
      have h1 := List.length_filter_le (fun x => inC m x == b) (l.take i)
      rw [List.length_take] at h1
      omega
    by_cases e : (inC m y == b) = true
    · rw [if_pos e] at hn
      refine Evt.ite_pos e (Evt.ite_pos (by omega) ?_)
      rw [wrap64_in _ (by omega) (by omega)]
      exact hn
    · rw [if_neg e, List.append_nil] at hn
      refine Evt.ite_neg e ?_
      rw [wrap64_in _ (by omega) (by omega)]
      exact hn
theorem keep_ev (l m : List S23) (b : Bool) (hl : l.length ≤ 1000) (hm : m.length ≤ 1000) : Evt (fun k => whirligigref03_Keep.f k l m b) (l.filter fun x => inC m x == b) := by
  have := keepL_ev l.length l m b 0 hl hm (by omega) (by omega)
  rwa [List.take_zero, List.filter_nil] at this
def mayC (x : S23) : Bool := mayCB x.f0 x.f1
def addR (l m : List S23) : List S23 × Int :=
  if setB l = true then (if m.all mayC = true then (if 8 < (dd eqC (sortC (l ++ m))).length then ([], 2) else (dd eqC (sortC (l ++ m)), 0)) else ([], 1)) else ([], 1)
theorem add_ev (l m : List S23) (hl : l.length ≤ 1000) (hm : m.length ≤ 1000) : Evt (fun k => comm_Add.f k l m) (addR l m) := by
  unfold comm_Add.f addR
  refine Evt.bind (commSet_ev l (by omega)) ?_
  by_cases e : setB l = true
  · refine Evt.ite_pos e ?_
    rw [if_pos e]
    have ea : (m.any fun c => !comm_Add.may c) = !(m.all mayC) := by
      rw [List.any_eq_not_all_not]
      congr 2
      funext c
      rw [Bool.not_not]; rfl
    by_cases e1 : m.all mayC = true
    · refine Evt.ite_neg (by rw [ea, e1]; simp) (Evt.ite_pos (by omega) ?_)
      rw [if_pos e1]
      by_cases e2 : 8 < (dd eqC (sortC (l ++ m))).length
      · refine Evt.ite_pos e2 ?_
        rw [if_pos e2]; exact Evt.pure _
      · refine Evt.ite_neg e2 ?_
        rw [if_neg e2]; exact Evt.pure _
    · refine Evt.ite_pos (by rw [ea, Bool.eq_false_iff.mpr e1]; rfl) ?_
      rw [if_neg e1]; exact Evt.pure _
  · refine Evt.ite_neg e ?_
    rw [if_neg e]; exact Evt.pure _
theorem insC_split (c : S23) (l : List S23) (i : Nat) (h : ∀ (j : Nat) x, j < i → l[j]? = some x → ordC x c < 0) (h2 : ∀ x, l[i]? = some x → ¬ ordC x c < 0) : insC c l = l.take i ++ [c] ++ l.drop i := by
  induction l generalizing i with
  | nil => simp [insC]
  | cons y l ih =>
    cases i with
    | zero =>
      simp only [insC]
      rw [if_neg (h2 y rfl)]; simp
    | succ i =>
      simp only [insC]
      rw [if_pos (h 0 y (by omega) rfl), ih i (fun j x hj hx => h (j + 1) x (by omega) (by simpa using hx)) (fun x hx => h2 x (by simpa using hx))]
      simp
theorem withL_ev : ∀ (d : Nat) (l : List S23) (c : S23) (i : Nat), l.length ≤ 2000 → l.length - i = d → i ≤ l.length → (∀ (j : Nat) x, j < i → l[j]? = some x → ordC x c < 0) →
    Evt (fun k => whirligigref03_with.l0 k l (i : Int) c.f0 c.f1) (insC c l) := by
  intro d
  induction d with
  | zero =>
    intro l c i hl hd hi h
    refine Evt.step ?_
    simp only [whirligigref03_with.l0]
    refine Evt.ite_neg (by omega) (Evt.ite_pos (by omega) (Evt.ite_pos (by omega) (Evt.bindc rfl (Evt.ite_pos ?_ (Evt.bindc rfl (Evt.ite_pos ?_ (Evt.bindc rfl (Evt.bindc rfl (Evt.ite_pos ?_ (Evt.of fun k => ?_)))))))))) <;> try (simp only [List.length_append, List.length_take, List.length_drop, List.length_cons, List.length_nil]; omega)
    rw [insC_split c l i h (fun x hx => by have := (List.getElem?_eq_some_iff.1 hx).1; omega), Int.toNat_natCast]; simp
  | succ d ih =>
    intro l c i hl hd hi h
    refine Evt.step ?_
    simp only [whirligigref03_with.l0]
    obtain ⟨y, _, hy, _⟩ := pat (l := l) (i := i) (by omega)
    refine Evt.ite_pos (by omega) (Evt.ite_pos (by omega) ?_)
    rw [rdC_at hy]
    refine Evt.bindc (before_is _ _ _ _) ?_
    have ea : orI (cmpI y.f0 c.f0) (cmpI y.f1 c.f1) = ordC y c := rfl
    rw [ea]
    by_cases e : ordC y c < 0
    · refine Evt.ite_pos (by simpa using e) ?_
      rw [wrap64_in _ (by omega) (by omega)]
      refine ih l c (i + 1) hl (by omega) (by omega) fun j x hj hx => ?_
      by_cases hji : j = i
      · subst hji; rw [hy] at hx; cases hx; exact e
      · exact h j x (by omega) hx
    · refine Evt.ite_neg (by simpa using e) (Evt.ite_pos (by omega) (Evt.bindc rfl (Evt.ite_pos ?_ (Evt.bindc rfl (Evt.ite_pos ?_ (Evt.bindc rfl (Evt.bindc rfl (Evt.ite_pos ?_ (Evt.of fun k => ?_))))))))) <;> try (simp only [List.length_append, List.length_take, List.length_drop, List.length_cons, List.length_nil]; omega)
      rw [insC_split c l i h (fun x hx => by rw [hy] at hx; cases hx; exact e), Int.toNat_natCast]; simp
theorem with_ev (l : List S23) (c : S23) (hl : l.length ≤ 1000) : Evt (fun k => whirligigref03_with.f k l c.f0 c.f1) (withC l c) := by
  unfold whirligigref03_with.f withC
  refine Evt.bind (refInF_ev l c hl) ?_
  by_cases e : inC l c = true
  · rw [if_pos e]; exact Evt.ite_pos e (Evt.pure _)
  · rw [if_neg e]
    exact Evt.ite_neg e (withL_ev l.length l c 0 (by omega) (by omega) (by omega) (fun j x hj => by omega))
def capR (l : List S23) : List S23 × Int := if 8 < l.length then ([], 2) else (l, 0)
theorem refAdd1_ev : ∀ (d : Nat) (l m : List S23) (i : Nat), m.length ≤ 300 → l.length ≤ 300 + i → m.length - i = d → i ≤ m.length → Evt (fun k => whirligigref03_Add.l1 k l m (i : Int)) (capR ((m.drop i).foldl withC l)) := by
  intro d
  induction d with
  | zero =>
    intro l m i hm hl hd hi
    refine Evt.step ?_
    simp only [whirligigref03_Add.l1]
    refine Evt.ite_neg (by omega) ?_
    rw [List.drop_eq_nil_of_le (by omega)]
    show Evt _ (capR l)
    unfold capR
    by_cases e : 8 < l.length
    · rw [if_pos e]; exact Evt.ite_pos (by omega) (Evt.pure _)
    · rw [if_neg e]; exact Evt.ite_neg (by omega) (Evt.pure _)
  | succ d ih =>
    intro l m i hm hl hd hi
    refine Evt.step ?_
    simp only [whirligigref03_Add.l1]
    obtain ⟨y, _, hy, hdy⟩ := pat (l := m) (i := i) (by omega)
    refine Evt.ite_pos (by omega) (Evt.ite_pos (by omega) ?_)
    rw [rdC_at hy, hdy, List.foldl_cons]
    refine Evt.bind (with_ev l y (by omega)) ?_
    rw [wrap64_in _ (by omega) (by omega)]
    exact ih (withC l y) m (i + 1) hm (by have := withC_len l y; omega) (by omega) (by omega)
theorem refAdd0_ev : ∀ (d : Nat) (l m : List S23) (i : Nat), m.length ≤ 300 → l.length ≤ 300 → m.length - i = d → i ≤ m.length → Evt (fun k => whirligigref03_Add.l0 k l m (i : Int)) (if (m.drop i).all mayC = true then capR (m.foldl withC l) else ([], 1)) := by
  intro d
  induction d with
  | zero =>
    intro l m i hm hl hd hi
    refine Evt.step ?_
    simp only [whirligigref03_Add.l0]
    refine Evt.ite_neg (by omega) ?_
    rw [List.drop_eq_nil_of_le (by omega)]
    exact refAdd1_ev m.length l m 0 hm (by omega) (by omega) (by omega)
  | succ d ih =>
    intro l m i hm hl hd hi
    refine Evt.step ?_
    simp only [whirligigref03_Add.l0]
    obtain ⟨y, _, hy, hdy⟩ := pat (l := m) (i := i) (by omega)
    refine Evt.ite_pos (by omega) (Evt.ite_pos (by omega) ?_)
    rw [rdC_at hy, hdy, List.all_cons]
    refine Evt.bindc (refCommMay_is _ _) ?_
    by_cases e : mayCB y.f0 y.f1 = true
    · refine Evt.ite_pos e ?_
      rw [wrap64_in _ (by omega) (by omega), show mayC y = true from e, Bool.true_and]
      exact ih l m (i + 1) hm hl (by omega) (by omega)
    · refine Evt.ite_neg e ?_
      rw [show mayC y = false from Bool.eq_false_iff.mpr e, Bool.false_and, if_neg (by simp)]
      exact Evt.pure _
theorem addR_is (l m : List S23) : addR l m = if setB l = true then (if m.all mayC = true then capR (m.foldl withC l) else ([], 1)) else ([], 1) := by
  unfold addR
  by_cases e : setB l = true
  · rw [if_pos e, if_pos e]
    have h := ((setB_SS l).1 e).2.2
    obtain ⟨h1, h2⟩ := dds_props (l ++ m)
    obtain ⟨h3, h4⟩ := foldC_props m l h
    rw [SS.ext h1 h3 (fun x => by rw [h2 x, h4 x, List.mem_append])]
    rfl
  · rw [if_neg e, if_neg e]
theorem refAdd_ev (l m : List S23) (hl : l.length ≤ 300) (hm : m.length ≤ 300) : Evt (fun k => whirligigref03_Add.f k l m) (addR l m) := by
  unfold whirligigref03_Add.f
  rw [addR_is]
  refine Evt.bind (refSet_ev l (by omega)) ?_
  by_cases e : setB l = true
  · refine Evt.ite_pos e ?_
    rw [if_pos e]
    exact refAdd0_ev m.length l m 0 hm hl (by omega) (by omega)
  · refine Evt.ite_neg e ?_
    rw [if_neg e]; exact Evt.pure _
end Go.Proofs.Ytikjfonedddlpaa.P

/- Which attributes may be, in lists and numbers alone. -/
import Derived.Test.YtnnlbofmlfafhaaPOrd
import Derived.Test.YtnnlbofmlfafhaaPx0
import Derived.Test.YtnnlbofmlfafhaaPx2
import Derived.Test.YtnnlbofmlfafhaaPx5
import Derived.Test.YtnnlbofmlfafhaaPx7
namespace Go.Proofs.Ytnnlbofmlfafhaa.P
open Go.RowKit Go.Proofs.YtnnlbofmlfafhaaW.PrintWords Go.Proofs.YtnnlbofmlfafhaaW.PrintLast Go.Proofs.YtnnlbofmlfafhaaW.PrintMore
set_option linter.unusedVariables false
set_option linter.unusedSimpArgs false

def inB (n a b : Int) : Bool := decide (a ≤ n) && decide (n ≤ b)
theorem within_is (n a b : Int) : attr_within.f n a b = some (inB n a b) := by
  unfold attr_within.f inB
  by_cases h : n ≥ a
  · rw [if_pos h]; simp [h]
  · rw [if_neg h]; simp [h]
theorem asB_in (n : Int) : inB n 1 65535 = asB n := rfl
def pathB (l : List Int) : Bool := decide (l.length ≤ 16) && l.all asB
theorem asMay_is (l : List Int) : aspath_May.f l = some (pathB l) := by
  unfold aspath_May.f pathB
  rw [List.all_eq_not_any_not]
theorem refAS_is (n : Int) : whirligigref04_AS.f n = some (asB n) := by
  unfold whirligigref04_AS.f asB
  by_cases h : n > 0
  · rw [if_pos h, decide_eq_true (show 1 ≤ n by omega), Bool.true_and]; exact congrArg some (decide_eq_decide.2 (by omega))
  · rw [if_neg h, decide_eq_false (show ¬ 1 ≤ n by omega), Bool.false_and]
theorem refPathL_ev : ∀ (d : Nat) (l : List Int) (i : Nat), l.length ≤ 100 → l.length - i = d → i ≤ l.length → i ≤ 16 → Evt (fun k => whirligigref04_May.l0 k l (i : Int)) (decide (l.length ≤ 16) && (l.drop i).all asB) := by
  intro d
  induction d with
  | zero =>
    intro l i hl hd hi h16
    refine Evt.step ?_
    simp only [whirligigref04_May.l0]
    refine Evt.ite_neg (by omega) (Evt.of fun k => ?_)
    rw [List.drop_eq_nil_of_le (by omega)]; simp; omega
  | succ d ih =>
    intro l i hl hd hi h16
    refine Evt.step ?_
    simp only [whirligigref04_May.l0]
    obtain ⟨x, hx, he, hdr⟩ := pat (l := l) (i := i) (by omega)
    refine Evt.ite_pos (by omega) ?_
    by_cases h : i = 16
    · refine Evt.ite_pos (by omega) (Evt.of fun k => ?_)
      rw [decide_eq_false (by omega)]; rfl
    · refine Evt.ite_neg (by omega) (Evt.ite_pos (by omega) ?_)
      rw [rd_at he, hdr]
      refine Evt.bindc (refAS_is _) ?_
      rw [List.all_cons]
      by_cases hb : asB x = true
      · refine Evt.ite_pos hb ?_
        rw [wrap64_in _ (by omega) (by omega), hb, Bool.true_and]
        exact ih l (i + 1) hl (by omega) (by omega) (by omega)
      · refine Evt.ite_neg hb (Evt.of fun k => ?_)
        rw [Bool.eq_false_iff.mpr hb]; simp
theorem refPath_ev (l : List Int) (hl : l.length ≤ 100) : Evt (fun k => whirligigref04_May.f k l) (pathB l) := refPathL_ev l.length l 0 hl (by omega) (by omega) (by omega)
def mayCB (a b : Int) : Bool := decide (1 ≤ a) && (decide (a ≤ 65535) && (decide (0 ≤ b) && decide (b ≤ 65535)))
theorem commMay_is (a b : Int) : comm_May.f a b = some (mayCB a b) := by
  unfold comm_May.f mayCB
  by_cases h1 : a ≥ 1
  · rw [if_pos h1]
    by_cases h2 : a ≤ 65535
    · rw [if_pos h2]
      by_cases h3 : b ≥ 0
      · rw [if_pos h3]; simp [h1, h2, h3]
      · rw [if_neg h3]; simp [h3]
    · rw [if_neg h2]; simp [h2]
  · rw [if_neg h1]; simp [h1]
theorem refCommMay_is (a b : Int) : whirligigref03_May.f a b = some (mayCB a b) := by
  unfold whirligigref03_May.f mayCB
  by_cases h1 : a > 0
  · rw [if_pos h1]
    by_cases h2 : a < 65536
    · rw [if_pos h2]
      by_cases h3 : b ≥ 0
      · rw [if_pos h3, decide_eq_true (show 1 ≤ a by omega), decide_eq_true (show a ≤ 65535 by omega), decide_eq_true (show 0 ≤ b by omega), Bool.true_and, Bool.true_and, Bool.true_and]; exact congrArg some (decide_eq_decide.2 (by omega))
      · rw [if_neg h3, decide_eq_false (show ¬ 0 ≤ b by omega)]; simp
    · rw [if_neg h2, decide_eq_false (show ¬ a ≤ 65535 by omega)]; simp
  · rw [if_neg h1, decide_eq_false (show ¬ 1 ≤ a by omega)]; simp
def stepsB (p : Option S63) : List S63 → Bool
  | [] => true
  | x :: l => mayCB x.f0 x.f1 && ((match p with | none => true | some q => decide (ordC q x < 0)) && stepsB (some x) l)
/-- the one ahead of the i-th -/
def prevC (l : List S63) (i : Nat) : Option S63 := if i = 0 then none else l[i - 1]?
theorem prevC_succ (l : List S63) (i : Nat) : prevC l (i + 1) = l[i]? := by unfold prevC; rw [if_neg (by omega)]; rfl
def setB (l : List S63) : Bool := decide (l.length ≤ 8) && stepsB none l
theorem commOrder_ev (x y : S63) : Evt (fun k => comm_order.f k x.f0 x.f1 y.f0 y.f1) (ordC x y) := Evt.of_mono (fun k => comm_order.mono _ _ _ _ k) (ordC_is x y)
theorem commSetL_ev : ∀ (d : Nat) (l : List S63) (i : Nat), l.length ≤ 100 → l.length - i = d → i ≤ l.length → Evt (fun k => comm_Set.l0 k l l (l.length : Int) (i : Int)) (stepsB (prevC l i) (l.drop i)) := by
  intro d
  induction d with
  | zero =>
    intro l i hl hd hi
    refine Evt.step ?_
    simp only [comm_Set.l0]
    refine Evt.ite_neg (by omega) (Evt.of fun k => ?_)
    rw [List.drop_eq_nil_of_le (by omega)]; rfl
  | succ d ih =>
    intro l i hl hd hi
    refine Evt.step ?_
    simp only [comm_Set.l0]
    obtain ⟨x, hx, he, hdr⟩ := pat (l := l) (i := i) (by omega)
    refine Evt.ite_pos (by omega) (Evt.ite_pos (by omega) (Evt.ite_pos (by omega) ?_))
    have hn := ih l (i + 1) hl (by omega) (by omega)
    rw [prevC_succ, he] at hn
    rw [rdC_at he, hdr]
    refine Evt.bindc (commMay_is _ _) ?_
    simp only [stepsB]
    by_cases hb : mayCB x.f0 x.f1 = true
    · refine Evt.ite_pos hb ?_
      rw [hb, Bool.true_and, wrap64_in ((i : Int) + 1) (by omega) (by omega)]
      by_cases h0 : i = 0
      · subst h0
        refine Evt.ite_neg (by simp) ?_
        exact hn
      · obtain ⟨q, hq, hqe, _⟩ := pat (l := l) (i := i - 1) (by omega)
        have hp : prevC l i = some q := by unfold prevC; rw [if_neg h0, hqe]
        rw [hp, wrap64_in ((i : Int) - 1) (by omega) (by omega), show ((i : Int) - 1) = ((i - 1 : Nat) : Int) by omega]
        refine Evt.ite_pos (by omega) (Evt.ite_pos (by omega) (Evt.ite_pos (by omega) ?_))
        rw [rdC_at hqe]
        refine Evt.bind (commOrder_ev q x) ?_
        by_cases hc : ordC q x < 0
        · refine Evt.ite_neg (by omega) ?_
          simp only [hc, decide_true, Bool.true_and]
          exact hn
        · refine Evt.ite_pos (by omega) (Evt.of fun k => ?_)
          simp [hc]
    · refine Evt.ite_neg hb (Evt.of fun k => ?_)
      rw [Bool.eq_false_iff.mpr hb]; rfl
theorem commSet_ev (l : List S63) (hl : l.length ≤ 100) : Evt (fun k => comm_Set.f k l) (setB l) := by
  unfold comm_Set.f setB
  by_cases h : l.length ≤ 8
  · rw [decide_eq_true h, Bool.true_and]
    exact Evt.ite_neg (by omega) (commSetL_ev l.length l 0 hl (by omega) (by omega))
  · rw [decide_eq_false h]
    exact Evt.ite_pos (by omega) (Evt.pure _)
theorem refSetL_ev : ∀ (d : Nat) (l : List S63) (i : Nat), l.length ≤ 100 → l.length - i = d → i ≤ l.length → i ≤ 8 → Evt (fun k => whirligigref03_Set.l0 k l (i : Int)) (decide (l.length ≤ 8) && stepsB (prevC l i) (l.drop i)) := by
  intro d
  induction d with
  | zero =>
    intro l i hl hd hi h8
    refine Evt.step ?_
    simp only [whirligigref03_Set.l0]
    refine Evt.ite_neg (by omega) (Evt.of fun k => ?_)
    rw [List.drop_eq_nil_of_le (by omega), decide_eq_true (by omega)]; rfl
  | succ d ih =>
    intro l i hl hd hi h8
    refine Evt.step ?_
    simp only [whirligigref03_Set.l0]
    obtain ⟨x, hx, he, hdr⟩ := pat (l := l) (i := i) (by omega)
    refine Evt.ite_pos (by omega) ?_
    by_cases h : i = 8
    · refine Evt.ite_pos (by omega) (Evt.of fun k => ?_)
      rw [decide_eq_false (by omega)]; rfl
    refine Evt.ite_neg (by omega) (Evt.ite_pos (by omega) ?_)
    have hn := ih l (i + 1) hl (by omega) (by omega) (by omega)
    rw [prevC_succ, he] at hn
    rw [rdC_at he, hdr]
    refine Evt.bindc (refCommMay_is _ _) ?_
    simp only [stepsB]
    by_cases hb : mayCB x.f0 x.f1 = true
    · refine Evt.ite_pos hb ?_
      rw [hb, Bool.true_and, wrap64_in ((i : Int) + 1) (by omega) (by omega)]
      by_cases h0 : i = 0
      · subst h0
        refine Evt.ite_neg (by simp) ?_
        exact hn
      · obtain ⟨q, hq, hqe, _⟩ := pat (l := l) (i := i - 1) (by omega)
        have hp : prevC l i = some q := by unfold prevC; rw [if_neg h0, hqe]
        rw [hp, wrap64_in ((i : Int) - 1) (by omega) (by omega), show ((i : Int) - 1) = ((i - 1 : Nat) : Int) by omega]
        refine Evt.ite_pos (by omega) (Evt.ite_pos (by omega) (Evt.ite_pos (by omega) ?_))
        rw [rdC_at hqe]
        refine Evt.bindc (before_is _ _ _ _) ?_
        have ea : orI (cmpI q.f0 x.f0) (cmpI q.f1 x.f1) = ordC q x := rfl
        rw [ea]
        by_cases hc : ordC q x < 0
        · refine Evt.ite_pos (by simpa using hc) ?_
          simp only [hc, decide_true, Bool.true_and]
          exact hn
        · refine Evt.ite_neg (by simpa using hc) (Evt.of fun k => ?_)
          simp [hc]
    · refine Evt.ite_neg hb (Evt.of fun k => ?_)
      rw [Bool.eq_false_iff.mpr hb]; simp
theorem refSet_ev (l : List S63) (hl : l.length ≤ 100) : Evt (fun k => whirligigref03_Set.f k l) (setB l) := refSetL_ev l.length l 0 hl (by omega) (by omega) (by omega)

theorem index_ev : ∀ (d : Nat) (l : List Int) (x : Int) (i : Nat), l.length ≤ 100 → l.length - i = d → i ≤ l.length → ∃ r : Int, Evt (fun k => slices_Index_int_int.l0 k l x (l.length : Int) (i : Int)) r ∧ decide (r ≥ 0) = (l.drop i).contains x := by
  intro d
  induction d with
  | zero =>
    intro l x i hl hd hi
    refine ⟨-1, Evt.step ?_, ?_⟩
    · simp only [slices_Index_int_int.l0]
      exact Evt.ite_neg (by omega) (Evt.of fun k => rfl)
    · rw [List.drop_eq_nil_of_le (by omega)]; rfl
  | succ d ih =>
    intro l x i hl hd hi
    obtain ⟨y, hy, he, hdr⟩ := pat (l := l) (i := i) (by omega)
    by_cases h : x = y
    · refine ⟨(i : Int), Evt.step ?_, ?_⟩
      · simp only [slices_Index_int_int.l0]
        refine Evt.ite_pos (by omega) (Evt.ite_pos (by omega) (Evt.ite_pos (by omega) ?_))
        rw [rd_at he]
        exact Evt.ite_pos h (Evt.of fun k => rfl)
      · rw [hdr, decide_eq_true (by omega)]; simp [h]
    · obtain ⟨r, h1, h2⟩ := ih l x (i + 1) hl (by omega) (by omega)
      refine ⟨r, Evt.step ?_, ?_⟩
      · simp only [slices_Index_int_int.l0]
        refine Evt.ite_pos (by omega) (Evt.ite_pos (by omega) (Evt.ite_pos (by omega) ?_))
        rw [rd_at he]
        refine Evt.ite_neg h ?_
        rw [wrap64_in _ (by omega) (by omega)]
        exact h1
      · rw [h2, hdr, List.contains_cons]; simp [h]
theorem contains_ev (l : List Int) (x : Int) (hl : l.length ≤ 100) : Evt (fun k => slices_Contains_int_int.f k l x) (l.contains x) := by
  obtain ⟨r, h1, h2⟩ := index_ev l.length l x 0 hl (by omega) (by omega)
  unfold slices_Contains_int_int.f
  refine Evt.bind h1 (Evt.of fun k => ?_)
  rw [h2]; rfl
def clB (seen : List Int) : List Int → Bool
  | [] => true
  | x :: l => asB x && (!(seen.contains x) && clB (seen ++ [x]) l)
def clustB (l : List Int) : Bool := decide (l.length ≤ 8) && clB [] l
theorem take_at {α : Type} {l : List α} {i : Nat} {x : α} (h : l[i]? = some x) : l.take (i + 1) = l.take i ++ [x] := by rw [List.take_add_one, h]; rfl
theorem clustL_ev : ∀ (d : Nat) (l : List Int) (i : Nat), l.length ≤ 100 → l.length - i = d → i ≤ l.length → i ≤ 8 → Evt (fun k => attr_clusters.l0 k l l (l.length : Int) (i : Int)) (decide (l.length ≤ 8) && clB (l.take i) (l.drop i)) := by
  intro d
  induction d with
  | zero =>
    intro l i hl hd hi h8
    refine Evt.step ?_
    simp only [attr_clusters.l0]
    refine Evt.ite_neg (by omega) (Evt.of fun k => ?_)
    rw [List.drop_eq_nil_of_le (by omega), decide_eq_true (by omega)]; rfl
  | succ d ih =>
    intro l i hl hd hi h8
    refine Evt.step ?_
    simp only [attr_clusters.l0]
    obtain ⟨x, hx, he, hdr⟩ := pat (l := l) (i := i) (by omega)
    refine Evt.ite_pos (by omega) (Evt.ite_pos (by omega) (Evt.ite_pos (by omega) ?_))
    by_cases h : i = 8
    · refine Evt.ite_pos (by omega) (Evt.of fun k => ?_)
      rw [decide_eq_false (by omega)]; rfl
    refine Evt.ite_neg (by omega) ?_
    have hn := ih l (i + 1) hl (by omega) (by omega) (by omega)
    rw [take_at he] at hn
    rw [rd_at he, hdr]
    refine Evt.bindc (within_is _ _ _) ?_
    rw [asB_in]
    simp only [clB]
    by_cases hb : asB x = true
    · refine Evt.ite_pos hb (Evt.ite_pos (by omega) ?_)
      rw [Int.toNat_natCast]
      refine Evt.bind (contains_ev _ _ (by rw [List.length_take]; omega)) ?_
      rw [hb, Bool.true_and]
      by_cases hc : (l.take i).contains x = true
      · refine Evt.ite_pos hc (Evt.of fun k => ?_)
        rw [hc]; simp
      · refine Evt.ite_neg hc ?_
        rw [Bool.eq_false_iff.mpr hc, wrap64_in _ (by omega) (by omega)]
        exact hn
    · refine Evt.ite_neg hb (Evt.of fun k => ?_)
      rw [Bool.eq_false_iff.mpr hb]; simp
theorem clust_ev (l : List Int) (hl : l.length ≤ 100) : Evt (fun k => attr_clusters.f k l) (clustB l) := clustL_ev l.length l 0 hl (by omega) (by omega) (by omega)
theorem refClIn_ev : ∀ (d : Nat) (l : List Int) (i j : Nat) (x : Int) (R : Bool), l.length ≤ 100 → l[i]? = some x → i - j = d → j ≤ i → Evt (fun k => whirligigref09_clusters.l0 k l ((i : Int) + 1)) R →
    Evt (fun k => whirligigref09_clusters.l1 k l (i : Int) (j : Int)) (!(((l.take i).drop j).contains x) && R) := by
  intro d
  induction d with
  | zero =>
    intro l i j x R hl he hd hj hR
    have hi : i < l.length := (List.getElem?_eq_some_iff.1 he).1
    refine Evt.step ?_
    simp only [whirligigref09_clusters.l1]
    refine Evt.ite_neg (by omega) ?_
    rw [wrap64_in _ (by omega) (by omega), List.drop_eq_nil_of_le (by rw [List.length_take]; omega)]
    exact hR
  | succ d ih =>
    intro l i j x R hl he hd hj hR
    have hi : i < l.length := (List.getElem?_eq_some_iff.1 he).1
    refine Evt.step ?_
    simp only [whirligigref09_clusters.l1]
    obtain ⟨y, hy, hye, hdy⟩ := pat (l := l.take i) (i := j) (by rw [List.length_take]; omega)
    have hy2 : l[j]? = some y := by rw [List.getElem?_take_of_lt (by omega)] at hye; exact hye
    refine Evt.ite_pos (by omega) (Evt.ite_pos (by omega) (Evt.ite_pos (by omega) (Evt.ite_pos (by omega) (Evt.ite_pos (by omega) ?_))))
    rw [rd_at he, rd_at hy2, hdy, List.contains_cons]
    by_cases h : y = x
    · refine Evt.ite_pos h (Evt.of fun k => ?_)
      simp [h]
    · refine Evt.ite_neg h ?_
      rw [wrap64_in _ (by omega) (by omega)]
      have hx : (x == y) = false := by simp; exact fun e => h e.symm
      rw [hx, Bool.false_or]
      exact ih l i (j + 1) x R hl he (by omega) (by omega) hR
theorem refClL_ev : ∀ (d : Nat) (l : List Int) (i : Nat), l.length ≤ 100 → l.length - i = d → i ≤ l.length → i ≤ 8 → Evt (fun k => whirligigref09_clusters.l0 k l (i : Int)) (decide (l.length ≤ 8) && clB (l.take i) (l.drop i)) := by
  intro d
  induction d with
  | zero =>
    intro l i hl hd hi h8
    refine Evt.step ?_
    simp only [whirligigref09_clusters.l0]
    refine Evt.ite_neg (by omega) (Evt.of fun k => ?_)
    rw [List.drop_eq_nil_of_le (by omega), decide_eq_true (by omega)]; rfl
  | succ d ih =>
    intro l i hl hd hi h8
    refine Evt.step ?_
    simp only [whirligigref09_clusters.l0]
    obtain ⟨x, hx, he, hdr⟩ := pat (l := l) (i := i) (by omega)
    refine Evt.ite_pos (by omega) ?_
    by_cases h : i = 8
    · refine Evt.ite_pos (by omega) (Evt.step ?_)
      simp only [whirligigref09_clusters.j1]
      refine Evt.ite_pos trivial (Evt.of fun k => ?_)
      rw [decide_eq_false (by omega)]; rfl
    refine Evt.ite_neg (by omega) (Evt.ite_pos (by omega) ?_)
    have hn := ih l (i + 1) hl (by omega) (by omega) (by omega)
    rw [take_at he] at hn
    rw [rd_at he, hdr]
    refine Evt.bindc (refAS_is _) (Evt.step ?_)
    simp only [whirligigref09_clusters.j1, clB]
    by_cases hb : asB x = true
    · rw [hb]
      refine Evt.ite_neg (by simp) ?_
      have hin := refClIn_ev i l i 0 x _ hl he (by omega) (by omega) hn
      rw [List.drop_zero] at hin
      rw [Bool.true_and, Bool.and_left_comm]
      exact hin
    · rw [Bool.eq_false_iff.mpr hb]
      refine Evt.ite_pos (by simp) (Evt.of fun k => ?_)
      simp
theorem refCl_ev (l : List Int) (hl : l.length ≤ 100) : Evt (fun k => whirligigref09_clusters.f k l) (clustB l) := refClL_ev l.length l 0 hl (by omega) (by omega) (by omega)

def mayNB (p m o f : Int) : Bool := inB p 0 1048576 && (inB m 0 1048576 && (inB o 0 2 && inB f 0 65535))
def mayAB (p m o : Int) (l : List Int) (c : List S63) (f : Int) (s : List Int) : Bool := mayNB p m o f && (pathB l && (setB c && clustB s))
theorem attrMay_ev (p m o : Int) (l : List Int) (c : List S63) (f : Int) (s : List Int) (hc : c.length ≤ 100) (hs : s.length ≤ 100) : Evt (fun k => attr_May.f k p m o l c f s) (mayAB p m o l c f s) := by
  unfold attr_May.f mayAB mayNB
  refine Evt.bindc (within_is _ _ _) ?_
  by_cases h1 : inB p 0 1048576 = true
  · rw [h1]
    refine Evt.ite_pos rfl (Evt.bindc (within_is _ _ _) ?_)
    by_cases h2 : inB m 0 1048576 = true
    · rw [h2]
      refine Evt.ite_pos rfl (Evt.bindc (within_is _ _ _) ?_)
      by_cases h3 : inB o 0 2 = true
      · rw [h3]
        refine Evt.ite_pos rfl (Evt.bindc (within_is _ _ _) ?_)
        by_cases h4 : inB f 0 65535 = true
        · rw [h4]
          refine Evt.ite_pos rfl (Evt.bindc (asMay_is _) ?_)
          by_cases h5 : pathB l = true
          · rw [h5]
            refine Evt.ite_pos rfl (Evt.bind (commSet_ev c hc) ?_)
            by_cases h6 : setB c = true
            · rw [h6]
              refine Evt.ite_pos rfl (Evt.bind (clust_ev s hs) (Evt.of fun k => ?_))
              simp
            · rw [Bool.eq_false_iff.mpr h6]; exact Evt.ite_neg (by simp) (Evt.of fun k => by simp)
          · rw [Bool.eq_false_iff.mpr h5]; exact Evt.ite_neg (by simp) (Evt.of fun k => by simp)
        · rw [Bool.eq_false_iff.mpr h4]; exact Evt.ite_neg (by simp) (Evt.of fun k => by simp)
      · rw [Bool.eq_false_iff.mpr h3]; exact Evt.ite_neg (by simp) (Evt.of fun k => by simp)
    · rw [Bool.eq_false_iff.mpr h2]; exact Evt.ite_neg (by simp) (Evt.of fun k => by simp)
  · rw [Bool.eq_false_iff.mpr h1]; exact Evt.ite_neg (by simp) (Evt.of fun k => by simp)
theorem refMayJ_ev (b : Bool) (p m o : Int) (l : List Int) (c : List S63) (f : Int) (s : List Int) (hl : l.length ≤ 100) (hc : c.length ≤ 100) (hs : s.length ≤ 100) : Evt (fun k => whirligigref09_May.j0 k b p m o l c f s) (!b && (pathB l && (setB c && clustB s))) := by
  refine Evt.step ?_
  simp only [whirligigref09_May.j0]
  cases b with
  | true => exact Evt.ite_pos rfl (Evt.of fun k => by simp)
  | false =>
    refine Evt.ite_neg (by simp) (Evt.bind (refPath_ev l hl) ?_)
    by_cases h5 : pathB l = true
    · rw [h5]
      refine Evt.ite_pos rfl (Evt.bind (refSet_ev c hc) ?_)
      by_cases h6 : setB c = true
      · rw [h6]
        refine Evt.ite_pos rfl (Evt.bind (refCl_ev s hs) (Evt.of fun k => ?_))
        simp
      · rw [Bool.eq_false_iff.mpr h6]; exact Evt.ite_neg (by simp) (Evt.of fun k => by simp)
    · rw [Bool.eq_false_iff.mpr h5]; exact Evt.ite_neg (by simp) (Evt.of fun k => by simp)
theorem refMay_ev (p m o : Int) (l : List Int) (c : List S63) (f : Int) (s : List Int) (hl : l.length ≤ 100) (hc : c.length ≤ 100) (hs : s.length ≤ 100) : Evt (fun k => whirligigref09_May.f k p m o l c f s) (mayAB p m o l c f s) := by
  unfold whirligigref09_May.f mayAB
  have T := refMayJ_ev true p m o l c f s hl hc hs
  have no : mayNB p m o f = false → Evt (fun k => whirligigref09_May.j0 k true p m o l c f s) (mayNB p m o f && (pathB l && (setB c && clustB s))) := fun e => by rw [e]; exact T
  by_cases h1 : p < 0
  · exact Evt.ite_pos h1 (no (by simp [mayNB, inB]; omega))
  refine Evt.ite_neg h1 ?_
  by_cases h2 : p > 1048576
  · exact Evt.ite_pos h2 (no (by simp [mayNB, inB]; omega))
  refine Evt.ite_neg h2 ?_
  by_cases h3 : m < 0
  · exact Evt.ite_pos h3 (no (by simp [mayNB, inB]; omega))
  refine Evt.ite_neg h3 ?_
  by_cases h4 : m > 1048576
  · exact Evt.ite_pos h4 (no (by simp [mayNB, inB]; omega))
  refine Evt.ite_neg h4 ?_
  by_cases h5 : o < 0
  · exact Evt.ite_pos h5 (no (by simp [mayNB, inB]; omega))
  refine Evt.ite_neg h5 ?_
  by_cases h6 : o > 2
  · exact Evt.ite_pos h6 (no (by simp [mayNB, inB]; omega))
  refine Evt.ite_neg h6 ?_
  by_cases h7 : f < 0
  · exact Evt.ite_pos h7 (no (by simp [mayNB, inB]; omega))
  refine Evt.ite_neg h7 ?_
  have J := refMayJ_ev (decide (f > 65535)) p m o l c f s hl hc hs
  have e : (!decide (f > 65535)) = mayNB p m o f := by
    unfold mayNB inB
    rw [decide_eq_true (show (0 : Int) ≤ p by omega), decide_eq_true (show p ≤ 1048576 by omega), decide_eq_true (show (0 : Int) ≤ m by omega), decide_eq_true (show m ≤ 1048576 by omega), decide_eq_true (show (0 : Int) ≤ o by omega), decide_eq_true (show o ≤ 2 by omega), decide_eq_true (show (0 : Int) ≤ f by omega)]
    by_cases h : f > 65535
    · simp [h]
    · simp [h]; omega
  rw [e] at J
  exact J
end Go.Proofs.Ytnnlbofmlfafhaa.P

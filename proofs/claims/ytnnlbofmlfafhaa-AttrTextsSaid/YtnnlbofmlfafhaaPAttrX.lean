/- Attributes' whole texts; two that may be have one text just if they are the same. -/
import Derived.Test.YtnnlbofmlfafhaaPAttrT
import Derived.Test.YtnnlbofmlfafhaaPx0
import Derived.Test.YtnnlbofmlfafhaaPx2
import Derived.Test.YtnnlbofmlfafhaaPx3
import Derived.Test.YtnnlbofmlfafhaaPx8
namespace Go.Proofs.Ytnnlbofmlfafhaa.P
open Go.RowKit Go.Proofs.YtnnlbofmlfafhaaW.PrintWords Go.Proofs.YtnnlbofmlfafhaaW.PrintLast Go.Proofs.YtnnlbofmlfafhaaW.PrintMore
set_option linter.unusedVariables false
set_option linter.unusedSimpArgs false

def oT (o : Int) : List UInt8 := if o = 0 then [105, 103, 112] else if o = 1 then [101, 103, 112] else [110, 111, 110, 101]
def frT (f : Int) : List UInt8 := if f = 0 then [] else [32, 102, 114, 111, 109, 32] ++ dg f
def clT (s : List Int) : List UInt8 := if s = [] then [] else [32, 99, 108, 117, 115, 116, 101, 114, 115, 32, 91] ++ jn (s.map dg) ++ [93]
def atT (p m o : Int) (l : List Int) (c : List S63) (f : Int) (s : List Int) : List UInt8 :=
  [112, 114, 101, 102, 32] ++ dg p ++ [32, 109, 101, 100, 32] ++ dg m ++ [32, 111, 114, 105, 103, 105, 110, 32] ++ oT o ++ [32, 112, 97, 116, 104, 32, 91] ++ jn (l.map dg) ++ [93, 32, 99, 111, 109, 109, 115, 32, 91] ++ jn (c.map cTx) ++ [93] ++ frT f ++ clT s
theorem rdO_is (o : Int) (h : 0 ≤ o ∧ o ≤ 2) : rdOf ByteArray.empty [(⟨#[105, 103, 112]⟩ : ByteArray), (⟨#[101, 103, 112]⟩ : ByteArray), (⟨#[110, 111, 110, 101]⟩ : ByteArray)] o = tx (oT o) := by
  rcases (by omega : o = 0 ∨ o = 1 ∨ o = 2) with rfl | rfl | rfl <;> rfl
theorem oT_len (o : Int) : (oT o).length ≤ 4 := by
  unfold oT
  split
  · simp
  · split <;> simp
theorem clB_may : ∀ (l seen : List Int), clB seen l = true → ∀ x, x ∈ l → asB x = true := by
  intro l
  induction l with
  | nil => intro _ _ x hx; simp at hx
  | cons y l ih =>
    intro seen h x hx
    simp only [clB, Bool.and_eq_true] at h
    rcases List.mem_cons.1 hx with rfl | hx
    · exact h.1
    · exact ih _ h.2.2 x hx
theorem clustB_iff {l : List Int} (h : clustB l = true) : l.length ≤ 8 ∧ ∀ x, x ∈ l → asB x = true := by
  simp only [clustB, Bool.and_eq_true, decide_eq_true_eq] at h
  exact ⟨h.1, clB_may l [] h.2⟩
theorem clTL_ev : ∀ (d : Nat) (l : List Int) (i : Nat) (x : List UInt8), x.length ≤ 1000 → l.length ≤ 8 → (∀ x, x ∈ l → asB x = true) → l.length - i = d → i ≤ l.length →
    Evt (fun k => attr_Text.l0 k (tx x) (((l.take i).map dg).map tx) l (l.length : Int) (i : Int)) (tx (x ++ ([32, 99, 108, 117, 115, 116, 101, 114, 115, 32, 91] ++ jn (l.map dg) ++ [93]))) := by
  intro d
  induction d with
  | zero =>
    intro l i x hx hl ha hd hi
    have hj := jnN_len l ha
    refine Evt.step ?_
    simp only [attr_Text.l0]
    refine Evt.ite_neg (by omega) ?_
    rw [List.take_of_length_le (by omega)]
    refine Evt.bindc (join_is _ (by rw [List.length_map]; omega) (by omega)) ?_
    simp only [tx_def, tx_app]
    refine Evt.ite_pos (by rw [tx_size]; omega) (Evt.ite_pos (by simp only [tx_size, List.length_append, List.length_cons, List.length_nil]; omega) (Evt.ite_pos (by simp only [tx_size, List.length_append, List.length_cons, List.length_nil]; omega) (Evt.pure _)))
  | succ d ih =>
    intro l i y hy hl ha hd hi
    refine Evt.step ?_
    simp only [attr_Text.l0]
    obtain ⟨x, hx, he, hdr⟩ := pat (l := l) (i := i) (by omega)
    have hx2 := asB_iff.1 (ha x hx)
    refine Evt.ite_pos (by omega) (Evt.ite_pos (by omega) (Evt.ite_pos (by omega) ?_))
    rw [rd_at he]
    refine Evt.bindc (aDig_is x (by omega) (by omega)) ?_
    refine Evt.ite_pos (by rw [List.length_map, List.length_map, List.length_take]; omega) ?_
    rw [wrap64_in _ (by omega) (by omega)]
    have hn := ih l (i + 1) y hy hl ha (by omega) (by omega)
    rw [take_at he, List.map_append, List.map_append] at hn
    exact hn
theorem attrJ_ev (x : List UInt8) (p m o : Int) (l : List Int) (c : List S63) (f : Int) (s : List Int) (hx : x.length ≤ 1000) (hs : clustB s = true) : Evt (fun k => attr_Text.j0 k (tx x) p m o l c f s) (tx (x ++ clT s)) := by
  obtain ⟨h1, h2⟩ := clustB_iff hs
  refine Evt.step ?_
  simp only [attr_Text.j0]
  unfold clT
  by_cases h : s = []
  · subst h
    rw [if_pos rfl, List.append_nil]
    exact Evt.ite_neg (by simp) (Evt.pure _)
  · rw [if_neg h]
    have : s.length ≠ 0 := fun e => h (List.eq_nil_of_length_eq_zero e)
    refine Evt.ite_pos (by omega) ?_
    have hn := clTL_ev s.length s 0 x hx h1 h2 (by omega) (by omega)
    rw [List.take_zero] at hn
    exact hn
theorem mayAB_iff {p m o : Int} {l : List Int} {c : List S63} {f : Int} {s : List Int} (h : mayAB p m o l c f s = true) : (0 ≤ p ∧ p ≤ 1048576) ∧ (0 ≤ m ∧ m ≤ 1048576) ∧ (0 ≤ o ∧ o ≤ 2) ∧ (0 ≤ f ∧ f ≤ 65535) ∧ pathB l = true ∧ setB c = true ∧ clustB s = true := by
  simp only [mayAB, mayNB, Bool.and_eq_true, inB_iff] at h
  exact ⟨h.1.1, h.1.2.1, h.1.2.2.1, h.1.2.2.2, h.2.1, h.2.2.1, h.2.2.2⟩
set_option maxHeartbeats 4000000 in
theorem attrText_ev (p m o : Int) (l : List Int) (c : List S63) (f : Int) (s : List Int) (hm : mayAB p m o l c f s = true) : Evt (fun k => attr_Text.f k p m o l c f s) (tx (atT p m o l c f s)) := by
  obtain ⟨⟨p0, p1⟩, ⟨m0, m1⟩, ⟨o0, o1⟩, ⟨f0, f1⟩, hl, hc, hs⟩ := mayAB_iff hm
  have lp := dg7 p1
  have lm := dg7 m1
  have lf := dg5 f1
  have lo := oT_len o
  have hP := jnN_len l (pathB_iff.1 hl).2
  have hP2 := (pathB_iff.1 hl).1
  have hC := jnC_len c (setB_iff hc).2
  have hC2 := (setB_iff hc).1
  unfold attr_Text.f
  refine Evt.bind (attrMay_ev p m o l c f s (by omega) (by have := (clustB_iff hs).1; omega)) (Evt.ite_pos hm ?_)
  refine Evt.bindc (aDig_is p p0 (by omega)) ?_
  simp only [tx_def, tx_app, tx_size, List.length_append, List.length_cons, List.length_nil]
  refine Evt.ite_pos (by omega) (Evt.ite_pos (by omega) (Evt.bindc (aDig_is m m0 (by omega)) ?_))
  simp only [tx_def, tx_app, tx_size, List.length_append, List.length_cons, List.length_nil]
  refine Evt.ite_pos (by omega) (Evt.ite_pos (by omega) (Evt.bindc rfl ?_))
  refine Evt.ite_pos o0 (Evt.ite_pos (by simp only [List.length_cons, List.length_nil]; omega) ?_)
  have ho := rdO_is o ⟨o0, o1⟩
  simp only [tx_def] at ho
  rw [ho]
  simp only [tx_def, tx_app, tx_size, List.length_append, List.length_cons, List.length_nil]
  refine Evt.ite_pos (by omega) (Evt.ite_pos (by omega) (Evt.bind (pathText_ev l hl) ?_))
  simp only [tx_def, tx_app, tx_size, List.length_append, List.length_cons, List.length_nil]
  refine Evt.ite_pos (by omega) (Evt.ite_pos (by omega) (Evt.bind (commTexts_ev c hc) ?_))
  simp only [tx_def, tx_app, tx_size, List.length_append, List.length_cons, List.length_nil]
  refine Evt.ite_pos (by omega) (Evt.ite_pos (by omega) ?_)
  by_cases hf : f = 0
  · refine Evt.ite_neg (by omega) ?_
    refine Evt.cast (attrJ_ev _ p m o l c f s (by simp only [List.length_append, List.length_cons, List.length_nil]; omega) hs) ?_
    simp only [atT, frT, if_pos hf, List.append_nil]
  · refine Evt.ite_pos (by omega) (Evt.bindc (aDig_is f f0 (by omega)) ?_)
    simp only [tx_def, tx_app, tx_size, List.length_append, List.length_cons, List.length_nil]
    refine Evt.ite_pos (by omega) (Evt.ite_pos (by omega) ?_)
    refine Evt.cast (attrJ_ev _ p m o l c f s (by simp only [List.length_append, List.length_cons, List.length_nil]; omega) hs) ?_
    simp only [atT, frT, if_neg hf]
theorem attrText_no (p m o : Int) (l : List Int) (c : List S63) (f : Int) (s : List Int) (hc : c.length ≤ 100) (hs : s.length ≤ 100) (hm : mayAB p m o l c f s = false) : Evt (fun k => attr_Text.f k p m o l c f s) (tx []) := by
  unfold attr_Text.f
  refine Evt.bind (attrMay_ev p m o l c f s hc hs) ?_
  rw [hm]
  exact Evt.ite_neg (by simp) (Evt.of fun k => rfl)
theorem refClTL_ev : ∀ (d : Nat) (s : List Int) (i : Nat) (x : List UInt8) (p m o : Int) (l : List Int) (c : List S63) (f : Int), x.length ≤ 1000 → s.length ≤ 8 → (∀ x, x ∈ s → asB x = true) → s.length - i = d → 0 < i → i ≤ s.length →
    Evt (fun k => whirligigref09_Text.l0 k (tx (x ++ jn ((s.take i).map dg) ++ (if i = s.length then [93] else []))) (i : Int) p m o l c f s) (tx (x ++ jn (s.map dg) ++ [93])) := by
  intro d
  induction d with
  | zero =>
    intro s i x p m o l c f hx hl ha hd h0 hi
    refine Evt.step ?_
    simp only [whirligigref09_Text.l0]
    refine Evt.ite_neg (by omega) ?_
    rw [List.take_of_length_le (by omega), if_pos (by omega)]
    exact Evt.pure _
  | succ d ih =>
    intro l i y p m o l2 c f hy hl ha hd h0 hi
    refine Evt.step ?_
    simp only [whirligigref09_Text.l0]
    obtain ⟨x, hx, he, hdr⟩ := pat (l := l) (i := i) (by omega)
    have hx2 := asB_iff.1 (ha x hx)
    have hl1 := jnN_len (l.take i) (fun y hy => ha y (List.mem_of_mem_take hy))
    rw [List.length_take] at hl1
    have hl2 : (dg x).length ≤ 5 := dg5 hx2.2
    have hn := ih l (i + 1) y p m o l2 c f hy hl ha (by omega) (by omega) (by omega)
    have hne : (l.take i).map dg ≠ [] := by
      intro e
      have := congrArg List.length e
      rw [List.length_map, List.length_take, List.length_nil] at this
      omega
    rw [take_at he, List.map_append, List.map_cons, List.map_nil, jn_snoc, if_neg hne] at hn
    rw [show (if i = l.length then ([93] : List UInt8) else []) = [] from if_neg (by omega), List.append_nil]
    refine Evt.ite_pos (by omega) (Evt.ite_neg (by omega) (Evt.ite_pos (by simp only [tx_size, List.length_append]; omega) (Evt.ite_pos (by omega) ?_)))
    rw [rd_at he]
    refine Evt.bind (num_ev x (by omega) (by omega)) ?_
    simp only [tx_def, tx_app, tx_size, List.length_append, List.length_cons, List.length_nil]
    refine Evt.ite_pos (by omega) ?_
    rw [wrap64_in ((l.length : Int) - 1) (by omega) (by omega), wrap64_in ((i : Int) + 1) (by omega) (by omega)]
    by_cases hz : i + 1 = l.length
    · refine Evt.ite_pos (by omega) (Evt.ite_pos (by omega) ?_)
      rw [if_pos hz] at hn
      simp only [List.append_assoc, List.singleton_append, List.cons_append] at hn ⊢
      exact hn
    · refine Evt.ite_neg (by omega) ?_
      rw [if_neg hz, List.append_nil] at hn
      simp only [List.append_assoc, List.singleton_append, List.cons_append] at hn ⊢
      exact hn
theorem refJ_ev (x : List UInt8) (p m o : Int) (l : List Int) (c : List S63) (f : Int) (s : List Int) (hx : x.length ≤ 900) (hs : clustB s = true) : Evt (fun k => whirligigref09_Text.j0 k (tx x) p m o l c f s) (tx (x ++ clT s)) := by
  obtain ⟨h1, h2⟩ := clustB_iff hs
  refine Evt.step ?_
  simp only [whirligigref09_Text.j0]
  refine Evt.step ?_
  simp only [whirligigref09_Text.l0]
  unfold clT
  cases s with
  | nil =>
    rw [if_pos rfl, List.append_nil]
    exact Evt.ite_neg (by simp) (Evt.pure _)
  | cons a s =>
    rw [if_neg (by simp)]
    have hx2 := asB_iff.1 (h2 a (by simp))
    have hl2 : (dg a).length ≤ 5 := dg5 hx2.2
    refine Evt.ite_pos (by simp only [List.length_cons]; omega) (Evt.ite_pos trivial (Evt.ite_pos (by rw [tx_size]; omega) (Evt.ite_pos (by omega) ?_)))
    rw [show rd (a :: s) 0 = a from rfl]
    refine Evt.bind (num_ev a (by omega) (by omega)) ?_
    simp only [tx_def, tx_app, tx_size, List.length_append, List.length_cons, List.length_nil]
    refine Evt.ite_pos (by omega) ?_
    have hn := refClTL_ev s.length (a :: s) 1 (x ++ [32, 99, 108, 117, 115, 116, 101, 114, 115, 32, 91]) p m o l c f (by simp; omega) h1 h2 (by simp) (by omega) (by simp)
    have e1 : jn (List.map dg (List.take 1 (a :: s))) = dg a := by simp [jn]
    rw [e1] at hn
    rw [List.length_cons] at h1
    rw [wrap64_in (((s.length + 1 : Nat) : Int) - 1) (by omega) (by omega), wrap64_in ((0 : Int) + 1) (by omega) (by omega)]
    by_cases hz : s.length = 0
    · refine Evt.ite_pos (by omega) (Evt.ite_pos (by omega) ?_)
      rw [List.length_cons, if_pos (by omega)] at hn
      simp only [List.append_assoc, List.singleton_append, List.cons_append] at hn ⊢
      exact hn
    · refine Evt.ite_neg (by omega) ?_
      rw [List.length_cons, if_neg (by omega), List.append_nil] at hn
      simp only [List.append_assoc, List.singleton_append, List.cons_append] at hn ⊢
      exact hn
set_option maxHeartbeats 4000000 in
theorem refText_ev (p m o : Int) (l : List Int) (c : List S63) (f : Int) (s : List Int) (hm : mayAB p m o l c f s = true) : Evt (fun k => whirligigref09_Text.f k p m o l c f s) (tx (atT p m o l c f s)) := by
  obtain ⟨⟨p0, p1⟩, ⟨m0, m1⟩, ⟨o0, o1⟩, ⟨f0, f1⟩, hl, hc, hs⟩ := mayAB_iff hm
  have lp := dg7 p1
  have lm := dg7 m1
  have lf := dg5 f1
  have lo := oT_len o
  have hP := jnN_len l (pathB_iff.1 hl).2
  have hP2 := (pathB_iff.1 hl).1
  have hC := jnC_len c (setB_iff hc).2
  have hC2 := (setB_iff hc).1
  unfold whirligigref09_Text.f
  refine Evt.bind (refMay_ev p m o l c f s (by omega) (by omega) (by have := (clustB_iff hs).1; omega)) (Evt.ite_pos hm ?_)
  refine Evt.bindc rfl (Evt.bind (num_ev p p0 (by omega)) ?_)
  have ho := rdO_is o ⟨o0, o1⟩
  simp only [tx_def] at ho
  simp only [tx_def, tx_app, tx_size, List.length_append, List.length_cons, List.length_nil]
  refine Evt.ite_pos (by omega) (Evt.ite_pos (by omega) (Evt.bind (num_ev m m0 (by omega)) ?_))
  simp only [tx_def, tx_app, tx_size, List.length_append, List.length_cons, List.length_nil]
  refine Evt.ite_pos (by omega) (Evt.ite_pos (by omega) ?_)
  refine Evt.ite_pos o0 (Evt.ite_pos (by omega) ?_)
  rw [ho]
  simp only [tx_def, tx_app, tx_size, List.length_append, List.length_cons, List.length_nil]
  refine Evt.ite_pos (by omega) (Evt.ite_pos (by omega) (Evt.bind (refPathText_ev l hl) ?_))
  simp only [tx_def, tx_app, tx_size, List.length_append, List.length_cons, List.length_nil]
  refine Evt.ite_pos (by omega) (Evt.ite_pos (by omega) (Evt.bind (refCommTexts_ev c hc) ?_))
  simp only [tx_def, tx_app, tx_size, List.length_append, List.length_cons, List.length_nil]
  refine Evt.ite_pos (by omega) (Evt.ite_pos (by omega) ?_)
  by_cases hf : f = 0
  · refine Evt.ite_pos hf ?_
    refine Evt.cast (refJ_ev _ p m o l c f s (by simp only [List.length_append, List.length_cons, List.length_nil]; omega) hs) ?_
    simp only [atT, frT, if_pos hf, List.append_nil]
  · refine Evt.ite_neg hf ?_
    refine Evt.ite_pos (by omega) (Evt.bind (num_ev f f0 (by omega)) ?_)
    simp only [tx_def, tx_app, tx_size, List.length_append, List.length_cons, List.length_nil]
    refine Evt.ite_pos (by omega) ?_
    refine Evt.cast (refJ_ev _ p m o l c f s (by simp only [List.length_append, List.length_cons, List.length_nil]; omega) hs) ?_
    simp only [atT, frT, if_neg hf, List.append_assoc]
theorem refText_no (p m o : Int) (l : List Int) (c : List S63) (f : Int) (s : List Int) (hl : l.length ≤ 100) (hc : c.length ≤ 100) (hs : s.length ≤ 100) (hm : mayAB p m o l c f s = false) : Evt (fun k => whirligigref09_Text.f k p m o l c f s) (tx []) := by
  unfold whirligigref09_Text.f
  refine Evt.bind (refMay_ev p m o l c f s hl hc hs) ?_
  rw [hm]
  exact Evt.ite_neg (by simp) (Evt.of fun k => rfl)
end Go.Proofs.Ytnnlbofmlfafhaa.P

/- PlistBehind: what is left of the law, about numbers and lists alone. -/
import Derived.Test.YtndcjncamdhbfaaPPlistL
import Derived.Test.YtndcjncamdhbfaaOk
import Derived.Test.YtndcjncamdhbfaaPx0
import Derived.Test.YtndcjncamdhbfaaPx12
import Derived.Test.YtndcjncamdhbfaaPx6
namespace Go.Proofs.Ytndcjncamdhbfaa.Pure
open Go.RowKit Go.Proofs.Ytndcjncamdhbfaa.P Go.Proofs.YtndcjncamdhbfaaW.PrintWords Go.Proofs.YtndcjncamdhbfaaW.PrintLast Go.Proofs.YtndcjncamdhbfaaW.PrintMore
set_option linter.unusedVariables false

theorem fir_app (l m : List S26) (c d : Int) : firL (l ++ m) c d = if 0 ≤ firL l c d then firL l c d else if 0 ≤ firL m c d then (l.length : Int) + firL m c d else firL m c d := by
  unfold firL idxB
  rw [List.findIdx?_append]
  cases h : l.findIdx? (mB c d) with
  | some i => simp
  | none =>
    cases h2 : m.findIdx? (mB c d) with
    | none => simp
    | some j => simp; omega
theorem fir_neg (l : List S26) (c d : Int) (h : ¬ 0 ≤ firL l c d) : firL l c d = -1 := by
  unfold firL idxB at *
  cases e : l.findIdx? (mB c d) with
  | none => rfl
  | some i => rw [e] at h; exact absurd (Int.natCast_nonneg i) h
theorem PlistBehind (x0 : List (S26)) (x1 : List (S26)) (x2 : S24) (ok_0 : (okL 40 (ok26)) x0) (ok_1 : (okL 40 (ok26)) x1) (ok_2 : (ok24) x2) : ∃ k, Go.Proofs.Ytndcjncamdhbfaa.P.whirligiglaw02_PlistBehind.f k x0 x1 x2.f0 x2.f1 = some true := by
  have ho0 : ∀ x, x ∈ x0 → inR x := fun x hx => okI_u32 (ok_0.2 x hx).1.1
  have ho1 : ∀ x, x ∈ x1 → inR x := fun x hx => okI_u32 (ok_1.2 x hx).1.1
  have hc : isA x2.f0 := okI_u32 ok_2.1
  have hl : Evt (fun k => (whirligiglaw02_lives.f k).bind fun t => (some t)) true := Evt.bind lives2_ev (Evt.pure _)
  refine Evt.ex ?_
  unfold whirligiglaw02_PlistBehind.f
  have short : ∀ b, (b = false → x0.length ≤ 16 ∧ x1.length ≤ 16) → Evt (fun k => whirligiglaw02_PlistBehind.j0 k x0 x1 b x2.f0 x2.f1) true := by
    intro b hb
    refine Evt.step ?_
    simp only [whirligiglaw02_PlistBehind.j0]
    cases b
    · obtain ⟨h0, h1⟩ := hb rfl
      refine Evt.ite_neg (by simp) (Evt.bindc rfl (Evt.ite_pos (by simp; omega) (Evt.bindc rfl (Evt.ite_pos (by simp; omega) (Evt.bindc rfl ?_)))))
      rw [List.nil_append]
      have hoa : ∀ x, x ∈ x0 ++ x1 → inR x := fun x hx => (List.mem_append.1 hx).elim (ho0 x) (ho1 x)
      refine Evt.bind (plistMay_ev _ hoa) ?_
      have last : ∀ b, (b = false → whyL (x0 ++ x1) = 0 ∧ mayB x2.f0 x2.f1 = true) → Evt (fun k => whirligiglaw02_PlistBehind.j1 k x0 x1 (x0 ++ x1) b x2.f0 x2.f1) true := by
        intro b hb
        refine Evt.step ?_
        simp only [whirligiglaw02_PlistBehind.j1]
        cases b
        · obtain ⟨hw, hm⟩ := hb rfl
          obtain ⟨q1, q2⟩ := whyL_ok hw
          have w0 : whyL x0 = 0 := whyL_of (by omega) (fun x hx => q2 x (by simp [hx]))
          have w1 : whyL x1 = 0 := whyL_of (by omega) (fun x hx => q2 x (by simp [hx]))
          refine Evt.ite_neg (by simp) (Evt.bind (lets_ev x0 _ _ ho0 hc) (Evt.bind (lets_ev x1 _ _ ho1 hc) (Evt.bind (lets_ev _ _ _ hoa hc) ?_)))
          have ea := fir_app x0 x1 x2.f0 x2.f1
          unfold letsL
          rw [if_pos hw, if_pos w0, if_pos w1, if_pos hm, if_pos hm, if_pos hm]
          by_cases f0 : 0 ≤ firL x0 x2.f0 x2.f1
          · rw [if_pos f0] at ea
            rw [if_pos f0, ea, if_pos f0]
            obtain ⟨x, e1, e2, _⟩ := firL_at x0 x2.f0 x2.f1 f0
            have er : (rd_T26 (x0 ++ x1) (firL x0 x2.f0 x2.f1)) = rd_T26 x0 (firL x0 x2.f0 x2.f1) := by
              unfold rd_T26
              rw [List.getD_eq_getElem?_getD, List.getD_eq_getElem?_getD, List.getElem?_append_left e2]
            rw [er]
            exact Evt.ite_pos f0 (Evt.ite_pos (by simp) (Evt.ite_pos rfl hl))
          · have n0 := fir_neg x0 _ _ f0
            rw [if_neg f0] at ea
            rw [if_neg f0]
            refine Evt.ite_neg f0 ?_
            by_cases f1 : 0 ≤ firL x1 x2.f0 x2.f1
            · rw [if_pos f1] at ea
              rw [if_pos f1, ea, if_pos (by omega)]
              obtain ⟨x, e1, e2, _⟩ := firL_at x1 x2.f0 x2.f1 f1
              have er : (rd_T26 (x0 ++ x1) ((x0.length : Int) + firL x1 x2.f0 x2.f1)) = rd_T26 x1 (firL x1 x2.f0 x2.f1) := by
                unfold rd_T26
                rw [List.getD_eq_getElem?_getD, List.getD_eq_getElem?_getD, List.getElem?_append_right (by omega)]
                rw [show ((x0.length : Int) + firL x1 x2.f0 x2.f1).toNat - x0.length = (firL x1 x2.f0 x2.f1).toNat by omega]
              rw [er]
              refine Evt.ite_pos (by simp) (Evt.ite_neg (by omega) (Evt.ite_pos f1 ?_))
              refine Evt.ite_pos ?_ hl
              rw [wrap64_in _ (by omega) (by omega)]
            · have n1 := fir_neg x1 _ _ f1
              rw [if_neg f1] at ea
              rw [if_neg f1, ea, if_neg f1]
              exact Evt.ite_pos (by simp) (Evt.ite_pos (by omega) (Evt.ite_pos (by omega) hl))
        · exact Evt.ite_pos rfl hl
      by_cases hw : whyL (x0 ++ x1) = 0
      · refine Evt.ite_pos hw (Evt.bind (refMay_ev _ _ hc) (last _ fun h => ⟨hw, by simpa using h⟩))
      · exact Evt.ite_neg hw (last _ fun h => by cases h)
    · exact Evt.ite_pos rfl hl
  by_cases h : (x0.length : Int) > 16
  · exact Evt.ite_pos h (short _ fun h => by cases h)
  · exact Evt.ite_neg h (short _ fun h2 => ⟨by omega, by have := of_decide_eq_false h2; omega⟩)
end Go.Proofs.Ytndcjncamdhbfaa.Pure

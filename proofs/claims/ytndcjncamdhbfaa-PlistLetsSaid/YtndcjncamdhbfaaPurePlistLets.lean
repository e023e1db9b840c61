/- PlistLets: what is left of the law, about numbers and lists alone. -/
import Derived.Test.YtndcjncamdhbfaaPPlistL
import Derived.Test.YtndcjncamdhbfaaOk
import Derived.Test.YtndcjncamdhbfaaPx0
import Derived.Test.YtndcjncamdhbfaaPx13
namespace Go.Proofs.Ytndcjncamdhbfaa.Pure
open Go.RowKit Go.Proofs.Ytndcjncamdhbfaa.P Go.Proofs.YtndcjncamdhbfaaW.PrintWords Go.Proofs.YtndcjncamdhbfaaW.PrintLast Go.Proofs.YtndcjncamdhbfaaW.PrintMore
set_option linter.unusedVariables false

theorem letsLoop_ev : ∀ (n : Nat) (l : List S26) (i : Nat) (c d : Int), (∀ x, x ∈ l → inR x) → isA c → 40 - i = n → i ≤ 40 → Evt (fun k => whirligiglaw02_PlistLets.l0 k l (i : Int) c d) true := by
  intro n
  induction n with
  | zero =>
    intro l i c d ho hc hn hi
    obtain rfl : i = 40 := by omega
    refine Evt.step ?_
    simp only [whirligiglaw02_PlistLets.l0]
    have h : Evt (fun k => whirligiglaw02_PlistLets.j2 k l ((40 : Nat) : Int) false c d) true := by
      refine Evt.step ?_
      simp only [whirligiglaw02_PlistLets.j2]
      exact Evt.ite_neg (by simp) (Evt.bind lives2_ev (Evt.pure _))
    by_cases hl : ((40 : Nat) : Int) < (l.length : Int)
    · exact Evt.ite_pos hl h
    · exact Evt.ite_neg hl h
  | succ n ih =>
    intro l i c d ho hc hn hi
    refine Evt.step ?_
    simp only [whirligiglaw02_PlistLets.l0]
    by_cases hl : (i : Int) < (l.length : Int)
    · refine Evt.ite_pos hl (Evt.step ?_)
      simp only [whirligiglaw02_PlistLets.j2]
      obtain ⟨x, hx, he, hdr⟩ := drop_at (l := l) (i := i) (by omega)
      refine Evt.ite_pos (decide_eq_true (by omega)) (Evt.ite_pos (by omega) (Evt.ite_pos hl ?_))
      rw [rdR_at he]
      refine Evt.bindc (met2_is _ _ _ _ _ c d (ho x hx) hc) (Evt.bind (refMet_ev _ _ _ _ _ c d (ho x hx) hc) (Evt.ite_neg (by simp) ?_))
      rw [wrap64_in _ (by omega) (by omega)]
      have := ih l (i + 1) c d ho hc (by omega) (by omega)
      exact this
    · refine Evt.ite_neg hl (Evt.step ?_)
      simp only [whirligiglaw02_PlistLets.j2]
      exact Evt.ite_neg (by simp) (Evt.bind lives2_ev (Evt.pure _))
theorem PlistLets (x0 : List (S26)) (x1 : S24) (ok_0 : (okL 40 (ok26)) x0) (ok_1 : (ok24) x1) : ∃ k, Go.Proofs.Ytndcjncamdhbfaa.P.whirligiglaw02_PlistLets.f k x0 x1.f0 x1.f1 = some true := by
  have ho : ∀ x, x ∈ x0 → inR x := fun x hx => okI_u32 (ok_0.2 x hx).1.1
  have hc : isA x1.f0 := okI_u32 ok_1.1
  refine Evt.ex ?_
  unfold whirligiglaw02_PlistLets.f
  refine Evt.bind (lets_ev x0 x1.f0 x1.f1 ho hc) (Evt.bind (refLets_ev x0 x1.f0 x1.f1 ho hc) (Evt.bind (plistMay_ev x0 ho) (Evt.bind (refWhy_ev x0 ho) (Evt.ite_pos rfl (Evt.ite_neg (by simp) (Evt.step ?_))))))
  simp only [whirligiglaw02_PlistLets.j0]
  exact Evt.ite_neg (by simp) (letsLoop_ev 40 x0 0 x1.f0 x1.f1 ho hc (by omega) (by omega))
end Go.Proofs.Ytndcjncamdhbfaa.Pure

/- CommBack: what is left of the law, about numbers and lists alone. -/
import Derived.Test.YtikjfonedddlpaaPL03
import Derived.Test.YtikjfonedddlpaaPC3
import Derived.Test.YtikjfonedddlpaaOk
import Derived.Test.YtikjfonedddlpaaPx0
import Derived.Test.YtikjfonedddlpaaPx30
import Derived.Test.YtikjfonedddlpaaPx9
namespace Go.Proofs.Ytikjfonedddlpaa.Pure
open Go.RowKit Go.Proofs.Ytikjfonedddlpaa Go.Proofs.Ytikjfonedddlpaa.P Go.Proofs.YtikjfonedddlpaaW.PrintWords Go.Proofs.YtikjfonedddlpaaW.PrintLast Go.Proofs.YtikjfonedddlpaaW.PrintMore
set_option linter.unusedVariables false

theorem backL_ev : ∀ (i : Nat) (x0 m X Y : List S23) (c : S23) (r : Bool), m.length ≤ 200 → i ≤ m.length → Y = (m.drop i).reverse →
    Evt (fun k => whirligiglaw03_CommBack.l0 k x0 m X (m.reverse) (-1) c.f0 c.f1) r → Evt (fun k => whirligiglaw03_CommBack.l0 k x0 m X Y ((i : Int) - 1) c.f0 c.f1) r := by
  intro i
  induction i with
  | zero =>
    intro x0 m X Y c r hm hi hY h
    rw [hY, List.drop_zero]
    exact h
  | succ i ih =>
    intro x0 m X Y c r hm hi hY h
    refine Evt.step ?_
    simp only [whirligiglaw03_CommBack.l0]
    obtain ⟨y, _, hy, hdy⟩ := pat (l := m) (i := i) (by omega)
    rw [show (((i + 1 : Nat) : Int) - 1) = (i : Int) by omega]
    refine Evt.ite_pos (by omega) (Evt.ite_pos (by omega) (Evt.ite_pos (by omega) (Evt.ite_pos (by rw [hY, List.length_reverse, List.length_drop]; omega) ?_)))
    rw [rdC_at hy, wrap64_in _ (by omega) (by omega)]
    exact ih x0 m X _ c r hm (by omega) (by rw [hY, hdy, List.reverse_cons]) h
theorem CommBack (x0 : List S23) (x1 : List S23) (x2 : S23) (ok_0 : (okL 16 (ok23)) x0) (ok_1 : (okL 16 (ok23)) x1) (ok_2 : (ok23) x2) : ∃ k, Go.Proofs.Ytikjfonedddlpaa.P.whirligiglaw03_CommBack.f k x0 x1 x2.f0 x2.f1 = some true := by
  refine Evt.ex (g := fun k => Go.Proofs.Ytikjfonedddlpaa.P.whirligiglaw03_CommBack.f k x0 x1 x2.f0 x2.f1) ?_
  unfold whirligiglaw03_CommBack.f
  have LL : Evt (fun k => (whirligiglaw03_lives.f k).bind fun t => some t) true := Evt.bind livesC_ev (Evt.pure _)
  have T : Evt (fun k => whirligiglaw03_CommBack.j0 k x0 x1 true x2.f0 x2.f1) true := by
    refine Evt.step ?_
    simp only [whirligiglaw03_CommBack.j0]
    exact Evt.ite_pos trivial LL
  refine Evt.bindc (few3_is x0) ?_
  by_cases h0 : x0.length ≤ 200
  · refine Evt.ite_pos (decide_eq_true h0) (Evt.bindc (few3_is x1) ?_)
    by_cases h1 : x1.length ≤ 200
    · rw [decide_eq_true h1]
      refine Evt.step ?_
      simp only [whirligiglaw03_CommBack.j0]
      refine Evt.ite_neg (by simp) (Evt.bind (add_ev x0 x1 (by omega) (by omega)) ?_)
      have N : Evt (fun k => if ((([] : List S23).length : Int)) = 0 then ((whirligiglaw03_lives.f k).bind fun t => (some t)) else (some false)) true := Evt.ite_pos rfl LL
      by_cases e : setB x0 = true
      · by_cases e1 : x1.all mayC = true
        · by_cases e2 : 8 < (dd eqC (sortC (x0 ++ x1))).length
          · rw [show addR x0 x1 = ([], 2) from by unfold addR; rw [if_pos e, if_pos e1, if_pos e2]]
            exact Evt.ite_neg (by simp) N
          · have hA : addR x0 x1 = (dd eqC (sortC (x0 ++ x1)), 0) := by unfold addR; rw [if_pos e, if_pos e1, if_neg e2]
            obtain ⟨p1, p2⟩ := dds_props (x0 ++ x1)
            rw [hA]
            obtain ⟨s1, s2, s3⟩ := (setB_SS x0).1 e
            rw [List.all_eq_true] at e1
            generalize hX : dd eqC (sortC (x0 ++ x1)) = X at *
            have hXs : setB X = true := by
              refine (setB_SS X).2 ⟨by omega, fun x hx => ?_, p1⟩
              rcases List.mem_append.1 ((p2 x).1 hx) with h | h
              · exact s2 x h
              · exact e1 x h
            refine Evt.ite_pos rfl ?_
            rw [wrap64_in _ (by omega) (by omega)]
            refine backL_ev x1.length x0 x1 X [] x2 true h1 (Nat.le_refl _) (by simp) ?_
            refine Evt.step ?_
            simp only [whirligiglaw03_CommBack.l0]
            have hY : addR X x1.reverse = (X, 0) := by
              obtain ⟨q1, q2⟩ := dds_props (X ++ x1.reverse)
              have hE : dd eqC (sortC (X ++ x1.reverse)) = X := SS.ext q1 p1 fun x => by
                rw [q2 x, List.mem_append, List.mem_reverse]
                constructor
                · rintro (h | h)
                  · exact h
                  · exact (p2 x).2 (List.mem_append.2 (.inr h))
                · exact .inl
              unfold addR
              rw [if_pos hXs, if_pos (by rw [List.all_eq_true]; exact fun x hx => e1 x (List.mem_reverse.1 hx)), hE, if_neg e2]
            have hadd := add_ev X x1.reverse (by omega) (by rw [List.length_reverse]; omega)
            rw [hY] at hadd
            have hdel := del_ev X x1 (by omega)
            rw [show delR X x1 = (X.filter (fun x => !inC x1 x), 0) from by unfold delR; rw [if_pos hXs]] at hdel
            have hDs : setB (X.filter fun x => !inC x1 x) = true := by
              refine (setB_SS _).2 ⟨?_, fun x hx => ((setB_SS X).1 hXs).2.1 x (List.mem_filter.1 hx).1, SS.filter p1 _⟩
              have := List.length_filter_le (fun x => !inC x1 x) X
              omega
            have hDl : (X.filter fun x => !inC x1 x).length ≤ 1000 := by have := ((setB_SS _).1 hDs).1; omega
            refine Evt.ite_neg (by omega) (Evt.bind hadd (Evt.bind hdel (Evt.bind (refInF_ev x1 x2 (by omega)) (Evt.ite_pos rfl (Evt.ite_pos rfl (Evt.bindc rfl (Evt.ite_pos ((cmpCL_zero X X).2 rfl) (Evt.bind (commSet_ev X (by omega)) (Evt.ite_pos hXs (Evt.bind (commSet_ev (X.filter fun x => !inC x1 x) (by omega)) ?_))))))))))
            rw [hDs]
            refine Evt.step ?_
            simp only [whirligiglaw03_CommBack.j2]
            have hhX := has_ev X x2 (by omega)
            have hhD := has_ev (X.filter fun x => !inC x1 x) x2 hDl
            have hh0 := has_ev x0 x2 (by omega)
            rw [hXs, Bool.true_and] at hhX
            rw [hDs, Bool.true_and] at hhD
            rw [e, Bool.true_and] at hh0
            have key : inC X x2 = (inC x1 x2 || inC x0 x2) := by
              rw [Bool.eq_iff_iff, inC_iff, p2, List.mem_append, Bool.or_eq_true, inC_iff, inC_iff]
              exact ⟨fun h => h.symm, fun h => h.symm⟩
            have key2 : inC (X.filter fun x => !inC x1 x) x2 = (!inC x1 x2 && inC x0 x2) := by
              rw [Bool.eq_iff_iff, inC_iff, List.mem_filter, p2, List.mem_append, Bool.and_eq_true, inC_iff (l := x0)]
              constructor
              · rintro ⟨h | h, h2⟩
                · exact ⟨h2, h⟩
                · rw [(inC_iff x1 x2).2 h] at h2; cases h2
              · rintro ⟨h1, h2⟩
                exact ⟨.inl h2, h1⟩
            rw [key] at hhX
            rw [key2] at hhD
            refine Evt.ite_neg (by simp) (Evt.bind hhX ?_)
            by_cases i1 : inC x1 x2 = true
            · exact Evt.ite_pos i1 (Evt.ite_pos (by rw [i1]; rfl) (Evt.bind hhD (Evt.ite_pos (by rw [i1]; rfl) LL)))
            · have i2 := Bool.eq_false_iff.mpr i1
              exact Evt.ite_neg i1 (Evt.bind hh0 (Evt.ite_pos (by rw [i2]; simp) (Evt.bind hhD (Evt.bind hh0 (Evt.ite_pos (by rw [i2]; simp) LL)))))
        · rw [show addR x0 x1 = ([], 1) from by unfold addR; rw [if_pos e, if_neg e1]]
          exact Evt.ite_neg (by simp) N
      · rw [show addR x0 x1 = ([], 1) from by unfold addR; rw [if_neg e]]
        exact Evt.ite_neg (by simp) N
    · rw [decide_eq_false h1]; exact T
  · exact Evt.ite_neg (by simpa using h0) T
end Go.Proofs.Ytikjfonedddlpaa.Pure

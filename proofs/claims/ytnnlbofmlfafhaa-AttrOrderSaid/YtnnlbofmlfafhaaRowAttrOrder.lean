/- AttrOrder, for every input: the law returns true, and its arguments read as before. No condition beyond the row's own. -/
import Derived.Test.YtnnlbofmlfafhaaRows
import Derived.Test.YtnnlbofmlfafhaaPx6
import Derived.Test.YtnnlbofmlfafhaaOk
import Derived.Test.YtnnlbofmlfafhaaPureAttrOrder
import Derived.WalkKit
import Derived.ProofKit
import Derived.OpenShut
import Derived.ShutString
import Derived.ChangeOld
import Derived.Below
import Derived.SizedLaws
namespace Go.Proofs.Ytnnlbofmlfafhaa.attrOrder
open Go.ChangeShapes Go.WideShapes Go.ChangeAt Go.RowKit Go.Proofs.Ytnnlbofmlfafhaa.P Go.Proofs.YtnnlbofmlfafhaaW.PrintWords Go.Proofs.YtnnlbofmlfafhaaW.PrintLast Go.Proofs.YtnnlbofmlfafhaaW.PrintMore
open Go.ChangeMaps (open_string shut_string)
set_option linter.unusedVariables false
theorem own : ownKnob Try.prog.godebug = none := by kernel_rfl
theorem laidOut : laidOutB Try.prog = true := by kernel_rfl
theorem drawn_below {w w' : World} (h : Drawn0 w w') : Below w.heap.size w w' := h.below
set_option maxRecDepth 100000 in
theorem lifted (os : Os) (started : os.Started) (H : Type) (enc : TypeId × Value → H) :
    ReturnsInHanded {} Try.checked os 4 .any (Rows.attrOrderSpec.pre6 enc Try.prog Try.f4 Rows.attrOrderRow.domain false) (Rows.attrOrderSpec.post enc Try.prog Try.f4 false true false false) := by
  refine returnsInHanded_of_change_sized (C := Try.checked) own started (by kernel_rfl) Try.func4
    (ChangeSpec.witness6 (enc := enc) (C := Try.checked) false ⟨#[], #[.agg #[.int .i64 0, .int .i64 0, .int .i64 0, .slice none 0 0, .slice none 0 0, .int .i64 0, .slice none 0 0], .agg #[.int .i64 0, .int .i64 0, .int .i64 0, .slice none 0 0, .slice none 0 0, .int .i64 0, .slice none 0 0], .agg #[.int .i64 0, .int .i64 0, .int .i64 0, .slice none 0 0, .slice none 0 0, .int .i64 0, .slice none 0 0]], []⟩ 8 (by kernel_rfl) (by kernel_rfl) (by kernel_rfl) (by kernel_rfl)) ?_
  intro W base args ds gs before hval0 hW hcnd hsz0 _
  have hsz : (DataW.weightsEach Try.prog (Try.f4.params.toList ++ Rows.attrOrderSpec.plain.varTypes Try.prog) (ds ++ gs)).all (· ≤ reachBytes) = true := hsz0
  have hval : ∀ (j : Nat) t v, Try.f4.params[j]? = some t → args[j]? = some v → Value.okWide Try.prog W .any base t v := hval0
  have hW' := hW
  obtain ⟨p, q, hA0, hV, rfl, hfz, hnd⟩ := hW
  have hA : DataW.TrodAll enc Try.prog W 0 (fun _ => true) true Try.f4.params.toList args.toList ds p := hA0
  rw [Try.params4] at hA hval hsz
  obtain ⟨v0, vs0, d0, ds0, p0, q0, hargs, rfl, rfl, h0, r_0⟩ := trodAll_cons hA
  obtain ⟨v1, vs1, d1, ds1, p1, q1, rfl, rfl, rfl, h1, r_1⟩ := trodAll_cons r_0
  obtain ⟨v2, vs2, d2, ds2, p2, q2, rfl, rfl, rfl, h2, r_2⟩ := trodAll_cons r_1
  obtain ⟨rfl, rfl, rfl⟩ := trodAll_nil r_2
  obtain rfl : args = #[v0, v1, v2] := by cases args; simp_all
  obtain ⟨rfl, rfl⟩ := trodVars_none hV
  have k_0 := h0
  have lt0 : ∀ x ∈ p0, x.block < W.heap.size := by obtain ⟨m, hm⟩ := k_0; exact DataW.trod_lt m _ _ _ hm
  obtain ⟨m0, hm0⟩ := h0
  have wt0 : (d0.weights Try.prog 30).all (· ≤ reachBytes) = true := List.all_eq_true.2 fun x hx => List.all_eq_true.1 hsz _ (DataW.weights_mem_each (j := 0) (t := 30) rfl rfl x hx)
  obtain ⟨cs0, rfl, sz0⟩ := okWide_struct Try.underlying30 (hval 0 30 v0 rfl rfl)
  obtain ⟨x0, kx0, ok0⟩ := r30.opens hm0 wt0
  obtain ⟨A0_3, c0_3, A0_4, c0_4, A0_6, c0_6, e0, l0_3, g0_3, l0_4, g0_4, l0_6, g0_6⟩ := k30_open kx0
  have e0' := congrArg List.toArray (show cs0.toList = _ from e0)
  rw [Array.toArray_toList] at e0'
  subst e0'
  have k_1 := h1
  have lt1 : ∀ x ∈ p1, x.block < W.heap.size := by obtain ⟨m, hm⟩ := k_1; exact DataW.trod_lt m _ _ _ hm
  obtain ⟨m1, hm1⟩ := h1
  have wt1 : (d1.weights Try.prog 30).all (· ≤ reachBytes) = true := List.all_eq_true.2 fun x hx => List.all_eq_true.1 hsz _ (DataW.weights_mem_each (j := 1) (t := 30) rfl rfl x hx)
  obtain ⟨cs1, rfl, sz1⟩ := okWide_struct Try.underlying30 (hval 1 30 v1 rfl rfl)
  obtain ⟨x1, kx1, ok1⟩ := r30.opens hm1 wt1
  obtain ⟨A1_3, c1_3, A1_4, c1_4, A1_6, c1_6, e1, l1_3, g1_3, l1_4, g1_4, l1_6, g1_6⟩ := k30_open kx1
  have e1' := congrArg List.toArray (show cs1.toList = _ from e1)
  rw [Array.toArray_toList] at e1'
  subst e1'
  have k_2 := h2
  have lt2 : ∀ x ∈ p2, x.block < W.heap.size := by obtain ⟨m, hm⟩ := k_2; exact DataW.trod_lt m _ _ _ hm
  obtain ⟨m2, hm2⟩ := h2
  have wt2 : (d2.weights Try.prog 30).all (· ≤ reachBytes) = true := List.all_eq_true.2 fun x hx => List.all_eq_true.1 hsz _ (DataW.weights_mem_each (j := 2) (t := 30) rfl rfl x hx)
  obtain ⟨cs2, rfl, sz2⟩ := okWide_struct Try.underlying30 (hval 2 30 v2 rfl rfl)
  obtain ⟨x2, kx2, ok2⟩ := r30.opens hm2 wt2
  obtain ⟨A2_3, c2_3, A2_4, c2_4, A2_6, c2_6, e2, l2_3, g2_3, l2_4, g2_4, l2_6, g2_6⟩ := k30_open kx2
  have e2' := congrArg List.toArray (show cs2.toList = _ from e2)
  rw [Array.toArray_toList] at e2'
  subst e2'
  clear hA0 hval0 hsz0 hsz
  obtain ⟨k, hk⟩ := Pure.AttrOrder x0 x1 x2 ok0 ok1 ok2
  refine (whirligiglaw09_AttrOrder.calls k x0.f0 x0.f1 x0.f2 _ _ x0.f3 _ _ x0.f4 x0.f5 _ _ x0.f6 x1.f0 x1.f1 x1.f2 _ _ x1.f3 _ _ x1.f4 x1.f5 _ _ x1.f6 x2.f0 x2.f1 x2.f2 _ _ x2.f3 _ _ x2.f4 x2.f5 _ _ x2.f6 true W g0_3 l0_3 g0_4 l0_4 g0_6 l0_6 g1_3 l1_3 g1_4 l1_4 g1_6 l1_6 g2_3 l2_3 g2_4 l2_4 g2_6 l2_6 hk).mono fun e W' ⟨he, bel0⟩ => ?_
  subst he
  have bel : Below W.heap.size W W' := by first | exact bel0 | exact drawn_below bel0
  exact ⟨_, rfl, _, _, _, [], _, [], hW', trodAll_mk1 (shut_bool Try.underlying4 _), (trodAll_cons_mk (Below.trod laidOut (by kernel_rfl) (of_decide_eq_true (by kernel_rfl)) k_0 bel lt0) (trodAll_cons_mk (Below.trod laidOut (by kernel_rfl) (of_decide_eq_true (by kernel_rfl)) k_1 bel lt1) (trodAll_cons_mk (Below.trod laidOut (by kernel_rfl) (of_decide_eq_true (by kernel_rfl)) k_2 bel lt2) trodAll_mk0))), rfl, bel.frame _, fun h => by cases h⟩
theorem over : Rows.attrOrderRow.holds Try.pinned (OpenSpec.ofChange Rows.attrOrderSpec) :=
  OpenClaim.holds_of_wide 4 Try.f4 rfl rfl rfl rfl rfl rfl rfl ⟨rfl, rfl, rfl, rfl, rfl⟩ rfl rfl rfl rfl rfl (by kernel_rfl) Try.func4 (by kernel_rfl)
    (of_decide_eq_true (by kernel_rfl)) (by unfold Func.isWrapper; first | (rw [if_pos (by decide +kernel)]; kernel_rfl) | (rw [if_neg (by decide +kernel)]; exact ⟨rfl, rfl⟩))
    (fun os started H enc _ => lifted os started H enc)
theorem proved : Rows.AttrOrderSaid := over
#print axioms proved
end Go.Proofs.Ytnnlbofmlfafhaa.attrOrder
namespace Go.Proofs.Ytnnlbofmlfafhaa
/-- The row, under a short name, for the claim. -/
theorem attrOrder_holds : Rows.AttrOrderSaid := attrOrder.proved
end Go.Proofs.Ytnnlbofmlfafhaa

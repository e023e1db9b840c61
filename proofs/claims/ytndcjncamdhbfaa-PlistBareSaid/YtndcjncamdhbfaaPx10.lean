/- Printed by this session's own program (wip/tools/pr.py) out of the translation: functions of the program as plain Lean functions, and that the program's calls come to what these say. -/
import Derived.Test.YtndcjncamdhbfaaPx0
import Derived.Test.YtndcjncamdhbfaaPx4
import Derived.Test.YtndcjncamdhbfaaPx9
namespace Go.Proofs.Ytndcjncamdhbfaa.P
open Go.RowKit Go.Proofs.YtndcjncamdhbfaaW.PrintWords Go.Proofs.YtndcjncamdhbfaaW.PrintLast Go.Proofs.YtndcjncamdhbfaaW.PrintMore
attribute [local go_sem] max2_int min2_int max_two min_two max_three min_three max_four min_four   -- for this text's walks alone
set_option linter.unusedVariables false
set_option linter.unusedSimpArgs false

/-! ### whirligigref02_Met: function 18 -/
def whirligigref02_Met.f (k : Nat) (a0_0 : Int) (a0_1 : Int) (a0_2 : Int) (a0_3 : Int) (a0_4 : Bool) (a1_0 : Int) (a1_1 : Int) : Option (Bool) := (whirligigref02_May.f k a0_0 a0_1 a0_2 a0_3 a0_4).bind fun t197 => (if t197 = true then ((whirligigref01_Contains.f k a0_0 a0_1 a1_0 a1_1).bind fun t198 => (if t198 = true then (if a1_1 ≥ a0_2 then (some (decide (a1_1 ≤ a0_3))) else (some false)) else (some false))) else (some false))
theorem whirligigref02_Met.mono : ∀ a0 a1 a2 a3 a4 a5 a6 k, LeO (whirligigref02_Met.f k a0 a1 a2 a3 a4 a5 a6) (whirligigref02_Met.f (k + 1) a0 a1 a2 a3 a4 a5 a6) := by
  intro a0 a1 a2 a3 a4 a5 a6 k
  unfold whirligigref02_Met.f
  repeat' first
      | (with_reducible exact whirligigref01_Contains.mono _ _ _ _ _)
      | (with_reducible exact whirligigref02_May.mono _ _ _ _ _ _)
      | (with_reducible exact LeO.refl _)
      | (with_reducible exact LeO.none _)
      | (with_reducible refine LeO.ite ?_ ?_)
      | (with_reducible refine LeO.bind ?_ (fun _ => ?_))
      | exact whirligigref01_Contains.mono _ _ _ _ _
      | exact whirligigref02_May.mono _ _ _ _ _ _
      | exact LeO.none _
      | refine LeO.ite ?_ ?_
      | refine LeO.bind ?_ (fun _ => ?_)
set_option maxHeartbeats 8000000 in
set_option maxRecDepth 100000 in
theorem whirligigref02_Met.calls (k : Nat) (ag : Int) (ah : Int) (af : Int) (ai : Int) (aj : Bool) (am : Int) (al : Int) (r : Bool) (w : World) (h : whirligigref02_Met.f k ag ah af ai aj am al = some r) :
  Calls Try.prog 18 #[.agg #[.int .u32 ag, .int .i64 ah, .int .i64 af, .int .i64 ai, .bool aj], .agg #[.int .u32 am, .int .i64 al]] w fun e w' => e = .returned (.bool r) ∧ Below w.heap.size w w' := by
 have hu26 := Try.underlying26
 have hu24 := Try.underlying24
 have HB := Aside0.mk (Below.refl w.heap.size w)
 have H := h
 unfold whirligigref02_Met.f at H
 clear h
 replace H := Option.bind_eq_some_iff.mp H
 obtain ⟨t197, A30, H⟩ := H
 (try dsimp only at H)
 have A3 := Aside0.mk A30
 clear A30
 by_cases c4 : t197 = true
 ·subst c4
  have H1 := H
  rw [if_pos rfl] at H1
  clear H
  have H := H1
  clear H1
  replace H := Option.bind_eq_some_iff.mp H
  obtain ⟨t198, A50, H⟩ := H
  (try dsimp only at H)
  have A5 := Aside0.mk A50
  clear A50
  by_cases c6 : t198 = true
  ·subst c6
   have H1 : (if al ≥ af then (some (decide (al ≤ ai))) else (some false)) = some r := by rw [if_pos rfl] at H; exact H
   clear H
   have H := H1
   clear H1
   by_cases c7 : al ≥ af
   ·rw [if_pos c7] at H
    have c7b0 : decide (af ≤ al) = true := decide_eq_true c7
    clear c7
    obtain rfl := Option.some.inj H
    go_enter Try.func18, Try.ntmps18
    go_wp2_with (first | ((with_reducible refine gate_dst (N := 2) rfl ?_); refine box_event ?hg (N := 2) ?hd (cs := #[.int .u32 ag, .int .i64 ah, .int .i64 af, .int .i64 ai, .bool aj]) (t := 26) ?hr ?_; (case hd => rfl); (case hg => rfl); (case hr => first | (go_simp; done) | (go_simp; rfl)); intro ab hg w8 hbox hb; have n0_ := Aside0.mk (below_step (by repeat (first | (with_reducible first | exact HB.out | apply below_alloc | apply pw_below_drewN | apply below_drew1) | exact HB.out)) hb); have n1_ := Aside0.mk (hbox); have n2_ := Aside0.mk ((by rw [hg]; exact (below_size (by repeat (first | (with_reducible first | exact HB.out | apply below_alloc | apply pw_below_drewN | apply below_drew1) | exact HB.out))) : w.heap.size ≤ ab)); have n3_ := Aside0.mk ((by rw [hg]; exact (below_size (by repeat (first | (with_reducible first | exact HB.out | apply below_alloc | apply pw_below_drewN | apply below_drew1) | exact HB.out))) : w.heap.size ≤ ab)); clear HB; have HB := n0_; have aa := n1_; have GW195 := n2_; have ae := n3_; clear n0_ n1_ n2_ n3_; clear hb hbox hg) | ((with_reducible refine gate_dst (N := 3) rfl ?_); refine box_event ?hg (N := 3) ?hd (cs := #[.int .u32 am, .int .i64 al]) (t := 24) ?hr ?_; (case hd => rfl); (case hg => rfl); (case hr => first | (go_simp; done) | (go_simp; rfl)); intro ad hg w9 hbox hb; have n0_ := Aside0.mk (blk_below (g := ab) (by (with_reducible repeat (first | refine blk_drewN ?_ _ | refine blk_drew ?_ | refine blk_alloc ?_ _)); exact aa.out) hb); have n1_ := Aside0.mk (below_step (by repeat (first | (with_reducible first | exact HB.out | apply below_alloc | apply pw_below_drewN | apply below_drew1 | refine below_set ?_ ae.out) | exact HB.out)) hb); have n2_ := Aside0.mk (hbox); have n3_ := Aside0.mk ((by rw [hg]; exact (below_size (by repeat (first | (with_reducible first | exact HB.out | apply below_alloc | apply pw_below_drewN | apply below_drew1 | refine below_set ?_ ae.out) | exact HB.out))) : w.heap.size ≤ ad)); have n4_ := Aside0.mk ((by rw [hg]; exact (below_size (by repeat (first | (with_reducible first | exact HB.out | apply below_alloc | apply pw_below_drewN | apply below_drew1 | refine below_set ?_ ae.out) | exact HB.out))) : w.heap.size ≤ ad)); have n5_ := Aside0.mk ((by rw [hg]; exact Nat.ne_of_lt (blk_lt (g := ab) (o := .cells #[.int .u32 ag, .int .i64 ah, .int .i64 af, .int .i64 ai, .bool aj] 26 (0, 0)) (by (with_reducible repeat (first | refine blk_drewN ?_ _ | refine blk_drew ?_ | refine blk_alloc ?_ _)); exact aa.out)) : ab ≠ ad)); have n6_ := Aside0.mk ((by rw [hg]; exact Nat.ne_of_gt (blk_lt (g := ab) (o := .cells #[.int .u32 ag, .int .i64 ah, .int .i64 af, .int .i64 ai, .bool aj] 26 (0, 0)) (by (with_reducible repeat (first | refine blk_drewN ?_ _ | refine blk_drew ?_ | refine blk_alloc ?_ _)); exact aa.out)) : ad ≠ ab)); clear aa; clear HB; have aa := n0_; have HB := n1_; have ac := n2_; have GW196 := n3_; have ak := n4_; have NB195_196 := n5_; have NB196_195 := n6_; clear n0_ n1_ n2_ n3_ n4_ n5_ n6_; clear hb hbox hg; have hnb10 := NB195_196.out; have hnc10 := NB196_195.out; have hcz11_0 : w9.cell? ⟨ab, 0, none⟩ = some (.int .u32 ag) := (blk_cell aa.out 0).trans rfl; have hcz11_1 : w9.cell? ⟨ab, 1, none⟩ = some (.int .i64 ah) := (blk_cell aa.out 1).trans rfl; have hcz11_2 : w9.cell? ⟨ab, 2, none⟩ = some (.int .i64 af) := (blk_cell aa.out 2).trans rfl; have hcz11_3 : w9.cell? ⟨ab, 3, none⟩ = some (.int .i64 ai) := (blk_cell aa.out 3).trans rfl; have hcz11_4 : w9.cell? ⟨ab, 4, none⟩ = some (.bool aj) := (blk_cell aa.out 4).trans rfl; have hfz11_0 := blk_frozen aa.out 0; have hfz11_1 := blk_frozen aa.out 1; have hfz11_2 := blk_frozen aa.out 2; have hfz11_3 := blk_frozen aa.out 3; have hfz11_4 := blk_frozen aa.out 4) | ((with_reducible refine gate_callee (f := 11) rfl ?_); refine goesL_ (some 6) rfl rfl Try.func11 (by kernel_rfl) rfl #[.agg #[.int .u32 ag, .int .i64 ah, .int .i64 af, .int .i64 ai, .bool aj]] rfl (by (try simp only [List.map_toArray, List.map_cons, List.map_nil]); first | done | rfl) ?_; (with_reducible refine (whirligigref02_May.calls k ag ah af ai aj true _ A3.out).mono ?_); rintro e w12 ⟨rfl, hb⟩; refine ⟨_, rfl, ?_⟩; replace aa := Aside0.mk (blk_below (g := ab) (by (with_reducible repeat (first | refine blk_drewN ?_ _ | refine blk_drew ?_ | refine blk_alloc ?_ _)); exact aa.out) hb); replace ac := Aside0.mk (blk_below (g := ad) (by (with_reducible repeat (first | refine blk_drewN ?_ _ | refine blk_drew ?_ | refine blk_alloc ?_ _)); exact ac.out) hb); replace HB := Aside0.mk (below_step (by repeat (first | (with_reducible first | exact HB.out | apply below_alloc | apply pw_below_drewN | apply below_drew1 | refine below_set ?_ ae.out | refine below_set ?_ ak.out) | exact HB.out)) hb); (try clear hb); (try clear hb2); (try clear hk); (try clear hi); have hcz13_0 : w12.cell? ⟨ab, 0, none⟩ = some (.int .u32 ag) := (blk_cell aa.out 0).trans rfl; have hcz13_1 : w12.cell? ⟨ab, 1, none⟩ = some (.int .i64 ah) := (blk_cell aa.out 1).trans rfl; have hcz13_2 : w12.cell? ⟨ab, 2, none⟩ = some (.int .i64 af) := (blk_cell aa.out 2).trans rfl; have hcz13_3 : w12.cell? ⟨ab, 3, none⟩ = some (.int .i64 ai) := (blk_cell aa.out 3).trans rfl; have hcz13_4 : w12.cell? ⟨ab, 4, none⟩ = some (.bool aj) := (blk_cell aa.out 4).trans rfl; have hfz13_0 := blk_frozen aa.out 0; have hfz13_1 := blk_frozen aa.out 1; have hfz13_2 := blk_frozen aa.out 2; have hfz13_3 := blk_frozen aa.out 3; have hfz13_4 := blk_frozen aa.out 4; have hcz14_0 : w12.cell? ⟨ad, 0, none⟩ = some (.int .u32 am) := (blk_cell ac.out 0).trans rfl; have hcz14_1 : w12.cell? ⟨ad, 1, none⟩ = some (.int .i64 al) := (blk_cell ac.out 1).trans rfl; have hfz14_0 := blk_frozen ac.out 0; have hfz14_1 := blk_frozen ac.out 1) | (go_at_call 35; (with_reducible refine (whirligigref01_Contains.calls k ag ah am al true _ A5.out).mono ?_); rintro e w15 ⟨rfl, hb⟩; replace aa := Aside0.mk (blk_below (g := ab) (by (with_reducible repeat (first | refine blk_drewN ?_ _ | refine blk_drew ?_ | refine blk_alloc ?_ _)); exact aa.out) hb); replace ac := Aside0.mk (blk_below (g := ad) (by (with_reducible repeat (first | refine blk_drewN ?_ _ | refine blk_drew ?_ | refine blk_alloc ?_ _)); exact ac.out) hb); replace HB := Aside0.mk (below_step (by repeat (first | (with_reducible first | exact HB.out | apply below_alloc | apply pw_below_drewN | apply below_drew1 | refine below_set ?_ ae.out | refine below_set ?_ ak.out) | exact HB.out)) hb); (try clear hb); (try clear hb2); (try clear hk); (try clear hi); have hcz16_0 : w15.cell? ⟨ad, 0, none⟩ = some (.int .u32 am) := (blk_cell ac.out 0).trans rfl; have hcz16_1 : w15.cell? ⟨ad, 1, none⟩ = some (.int .i64 al) := (blk_cell ac.out 1).trans rfl; have hfz16_0 := blk_frozen ac.out 0; have hfz16_1 := blk_frozen ac.out 1; have hcz17_0 : w15.cell? ⟨ab, 0, none⟩ = some (.int .u32 ag) := (blk_cell aa.out 0).trans rfl; have hcz17_1 : w15.cell? ⟨ab, 1, none⟩ = some (.int .i64 ah) := (blk_cell aa.out 1).trans rfl; have hcz17_2 : w15.cell? ⟨ab, 2, none⟩ = some (.int .i64 af) := (blk_cell aa.out 2).trans rfl; have hcz17_3 : w15.cell? ⟨ab, 3, none⟩ = some (.int .i64 ai) := (blk_cell aa.out 3).trans rfl; have hcz17_4 : w15.cell? ⟨ab, 4, none⟩ = some (.bool aj) := (blk_cell aa.out 4).trans rfl; have hfz17_0 := blk_frozen aa.out 0; have hfz17_1 := blk_frozen aa.out 1; have hfz17_2 := blk_frozen aa.out 2; have hfz17_3 := blk_frozen aa.out 3; have hfz17_4 := blk_frozen aa.out 4))
    go_ret
    exact ⟨by first | rfl | (simp [errW_none, errW_some] <;> rfl) | (simp [*, errW_none, errW_some] <;> rfl), by repeat (first | (with_reducible first | exact HB.out | apply below_alloc | apply pw_below_drewN | apply below_drew1 | refine below_set ?_ ae.out | refine below_set ?_ ak.out) | exact HB.out)⟩
   ·rw [if_neg c7] at H
    have c7b0 : decide (af ≤ al) = false := decide_eq_false c7
    clear c7
    obtain rfl := Option.some.inj H
    go_enter Try.func18, Try.ntmps18
    go_wp2_with (first | ((with_reducible refine gate_dst (N := 2) rfl ?_); refine box_event ?hg (N := 2) ?hd (cs := #[.int .u32 ag, .int .i64 ah, .int .i64 af, .int .i64 ai, .bool aj]) (t := 26) ?hr ?_; (case hd => rfl); (case hg => rfl); (case hr => first | (go_simp; done) | (go_simp; rfl)); intro ab hg w18 hbox hb; have n0_ := Aside0.mk (below_step (by repeat (first | (with_reducible first | exact HB.out | apply below_alloc | apply pw_below_drewN | apply below_drew1) | exact HB.out)) hb); have n1_ := Aside0.mk (hbox); have n2_ := Aside0.mk ((by rw [hg]; exact (below_size (by repeat (first | (with_reducible first | exact HB.out | apply below_alloc | apply pw_below_drewN | apply below_drew1) | exact HB.out))) : w.heap.size ≤ ab)); have n3_ := Aside0.mk ((by rw [hg]; exact (below_size (by repeat (first | (with_reducible first | exact HB.out | apply below_alloc | apply pw_below_drewN | apply below_drew1) | exact HB.out))) : w.heap.size ≤ ab)); clear HB; have HB := n0_; have aa := n1_; have GW195 := n2_; have ae := n3_; clear n0_ n1_ n2_ n3_; clear hb hbox hg) | ((with_reducible refine gate_dst (N := 3) rfl ?_); refine box_event ?hg (N := 3) ?hd (cs := #[.int .u32 am, .int .i64 al]) (t := 24) ?hr ?_; (case hd => rfl); (case hg => rfl); (case hr => first | (go_simp; done) | (go_simp; rfl)); intro ad hg w19 hbox hb; have n0_ := Aside0.mk (blk_below (g := ab) (by (with_reducible repeat (first | refine blk_drewN ?_ _ | refine blk_drew ?_ | refine blk_alloc ?_ _)); exact aa.out) hb); have n1_ := Aside0.mk (below_step (by repeat (first | (with_reducible first | exact HB.out | apply below_alloc | apply pw_below_drewN | apply below_drew1 | refine below_set ?_ ae.out) | exact HB.out)) hb); have n2_ := Aside0.mk (hbox); have n3_ := Aside0.mk ((by rw [hg]; exact (below_size (by repeat (first | (with_reducible first | exact HB.out | apply below_alloc | apply pw_below_drewN | apply below_drew1 | refine below_set ?_ ae.out) | exact HB.out))) : w.heap.size ≤ ad)); have n4_ := Aside0.mk ((by rw [hg]; exact (below_size (by repeat (first | (with_reducible first | exact HB.out | apply below_alloc | apply pw_below_drewN | apply below_drew1 | refine below_set ?_ ae.out) | exact HB.out))) : w.heap.size ≤ ad)); have n5_ := Aside0.mk ((by rw [hg]; exact Nat.ne_of_lt (blk_lt (g := ab) (o := .cells #[.int .u32 ag, .int .i64 ah, .int .i64 af, .int .i64 ai, .bool aj] 26 (0, 0)) (by (with_reducible repeat (first | refine blk_drewN ?_ _ | refine blk_drew ?_ | refine blk_alloc ?_ _)); exact aa.out)) : ab ≠ ad)); have n6_ := Aside0.mk ((by rw [hg]; exact Nat.ne_of_gt (blk_lt (g := ab) (o := .cells #[.int .u32 ag, .int .i64 ah, .int .i64 af, .int .i64 ai, .bool aj] 26 (0, 0)) (by (with_reducible repeat (first | refine blk_drewN ?_ _ | refine blk_drew ?_ | refine blk_alloc ?_ _)); exact aa.out)) : ad ≠ ab)); clear aa; clear HB; have aa := n0_; have HB := n1_; have ac := n2_; have GW196 := n3_; have ak := n4_; have NB195_196 := n5_; have NB196_195 := n6_; clear n0_ n1_ n2_ n3_ n4_ n5_ n6_; clear hb hbox hg; have hnb20 := NB195_196.out; have hnc20 := NB196_195.out; have hcz21_0 : w19.cell? ⟨ab, 0, none⟩ = some (.int .u32 ag) := (blk_cell aa.out 0).trans rfl; have hcz21_1 : w19.cell? ⟨ab, 1, none⟩ = some (.int .i64 ah) := (blk_cell aa.out 1).trans rfl; have hcz21_2 : w19.cell? ⟨ab, 2, none⟩ = some (.int .i64 af) := (blk_cell aa.out 2).trans rfl; have hcz21_3 : w19.cell? ⟨ab, 3, none⟩ = some (.int .i64 ai) := (blk_cell aa.out 3).trans rfl; have hcz21_4 : w19.cell? ⟨ab, 4, none⟩ = some (.bool aj) := (blk_cell aa.out 4).trans rfl; have hfz21_0 := blk_frozen aa.out 0; have hfz21_1 := blk_frozen aa.out 1; have hfz21_2 := blk_frozen aa.out 2; have hfz21_3 := blk_frozen aa.out 3; have hfz21_4 := blk_frozen aa.out 4) | ((with_reducible refine gate_callee (f := 11) rfl ?_); refine goesL_ (some 6) rfl rfl Try.func11 (by kernel_rfl) rfl #[.agg #[.int .u32 ag, .int .i64 ah, .int .i64 af, .int .i64 ai, .bool aj]] rfl (by (try simp only [List.map_toArray, List.map_cons, List.map_nil]); first | done | rfl) ?_; (with_reducible refine (whirligigref02_May.calls k ag ah af ai aj true _ A3.out).mono ?_); rintro e w22 ⟨rfl, hb⟩; refine ⟨_, rfl, ?_⟩; replace aa := Aside0.mk (blk_below (g := ab) (by (with_reducible repeat (first | refine blk_drewN ?_ _ | refine blk_drew ?_ | refine blk_alloc ?_ _)); exact aa.out) hb); replace ac := Aside0.mk (blk_below (g := ad) (by (with_reducible repeat (first | refine blk_drewN ?_ _ | refine blk_drew ?_ | refine blk_alloc ?_ _)); exact ac.out) hb); replace HB := Aside0.mk (below_step (by repeat (first | (with_reducible first | exact HB.out | apply below_alloc | apply pw_below_drewN | apply below_drew1 | refine below_set ?_ ae.out | refine below_set ?_ ak.out) | exact HB.out)) hb); (try clear hb); (try clear hb2); (try clear hk); (try clear hi); have hcz23_0 : w22.cell? ⟨ab, 0, none⟩ = some (.int .u32 ag) := (blk_cell aa.out 0).trans rfl; have hcz23_1 : w22.cell? ⟨ab, 1, none⟩ = some (.int .i64 ah) := (blk_cell aa.out 1).trans rfl; have hcz23_2 : w22.cell? ⟨ab, 2, none⟩ = some (.int .i64 af) := (blk_cell aa.out 2).trans rfl; have hcz23_3 : w22.cell? ⟨ab, 3, none⟩ = some (.int .i64 ai) := (blk_cell aa.out 3).trans rfl; have hcz23_4 : w22.cell? ⟨ab, 4, none⟩ = some (.bool aj) := (blk_cell aa.out 4).trans rfl; have hfz23_0 := blk_frozen aa.out 0; have hfz23_1 := blk_frozen aa.out 1; have hfz23_2 := blk_frozen aa.out 2; have hfz23_3 := blk_frozen aa.out 3; have hfz23_4 := blk_frozen aa.out 4; have hcz24_0 : w22.cell? ⟨ad, 0, none⟩ = some (.int .u32 am) := (blk_cell ac.out 0).trans rfl; have hcz24_1 : w22.cell? ⟨ad, 1, none⟩ = some (.int .i64 al) := (blk_cell ac.out 1).trans rfl; have hfz24_0 := blk_frozen ac.out 0; have hfz24_1 := blk_frozen ac.out 1) | (go_at_call 35; (with_reducible refine (whirligigref01_Contains.calls k ag ah am al true _ A5.out).mono ?_); rintro e w25 ⟨rfl, hb⟩; replace aa := Aside0.mk (blk_below (g := ab) (by (with_reducible repeat (first | refine blk_drewN ?_ _ | refine blk_drew ?_ | refine blk_alloc ?_ _)); exact aa.out) hb); replace ac := Aside0.mk (blk_below (g := ad) (by (with_reducible repeat (first | refine blk_drewN ?_ _ | refine blk_drew ?_ | refine blk_alloc ?_ _)); exact ac.out) hb); replace HB := Aside0.mk (below_step (by repeat (first | (with_reducible first | exact HB.out | apply below_alloc | apply pw_below_drewN | apply below_drew1 | refine below_set ?_ ae.out | refine below_set ?_ ak.out) | exact HB.out)) hb); (try clear hb); (try clear hb2); (try clear hk); (try clear hi); have hcz26_0 : w25.cell? ⟨ad, 0, none⟩ = some (.int .u32 am) := (blk_cell ac.out 0).trans rfl; have hcz26_1 : w25.cell? ⟨ad, 1, none⟩ = some (.int .i64 al) := (blk_cell ac.out 1).trans rfl; have hfz26_0 := blk_frozen ac.out 0; have hfz26_1 := blk_frozen ac.out 1; have hcz27_0 : w25.cell? ⟨ab, 0, none⟩ = some (.int .u32 ag) := (blk_cell aa.out 0).trans rfl; have hcz27_1 : w25.cell? ⟨ab, 1, none⟩ = some (.int .i64 ah) := (blk_cell aa.out 1).trans rfl; have hcz27_2 : w25.cell? ⟨ab, 2, none⟩ = some (.int .i64 af) := (blk_cell aa.out 2).trans rfl; have hcz27_3 : w25.cell? ⟨ab, 3, none⟩ = some (.int .i64 ai) := (blk_cell aa.out 3).trans rfl; have hcz27_4 : w25.cell? ⟨ab, 4, none⟩ = some (.bool aj) := (blk_cell aa.out 4).trans rfl; have hfz27_0 := blk_frozen aa.out 0; have hfz27_1 := blk_frozen aa.out 1; have hfz27_2 := blk_frozen aa.out 2; have hfz27_3 := blk_frozen aa.out 3; have hfz27_4 := blk_frozen aa.out 4))
    go_ret
    exact ⟨by first | rfl | (simp [errW_none, errW_some] <;> rfl) | (simp [*, errW_none, errW_some] <;> rfl), by repeat (first | (with_reducible first | exact HB.out | apply below_alloc | apply pw_below_drewN | apply below_drew1 | refine below_set ?_ ae.out | refine below_set ?_ ak.out) | exact HB.out)⟩
  ·replace c6 := Bool.eq_false_iff.mpr c6
   subst c6
   have H1 : (some false) = some r := by rw [if_neg (show ¬ (false = true) by decide)] at H; exact H
   clear H
   have H := H1
   clear H1
   obtain rfl := Option.some.inj H
   go_enter Try.func18, Try.ntmps18
   go_wp2_with (first | ((with_reducible refine gate_dst (N := 2) rfl ?_); refine box_event ?hg (N := 2) ?hd (cs := #[.int .u32 ag, .int .i64 ah, .int .i64 af, .int .i64 ai, .bool aj]) (t := 26) ?hr ?_; (case hd => rfl); (case hg => rfl); (case hr => first | (go_simp; done) | (go_simp; rfl)); intro ab hg w28 hbox hb; have n0_ := Aside0.mk (below_step (by repeat (first | (with_reducible first | exact HB.out | apply below_alloc | apply pw_below_drewN | apply below_drew1) | exact HB.out)) hb); have n1_ := Aside0.mk (hbox); have n2_ := Aside0.mk ((by rw [hg]; exact (below_size (by repeat (first | (with_reducible first | exact HB.out | apply below_alloc | apply pw_below_drewN | apply below_drew1) | exact HB.out))) : w.heap.size ≤ ab)); have n3_ := Aside0.mk ((by rw [hg]; exact (below_size (by repeat (first | (with_reducible first | exact HB.out | apply below_alloc | apply pw_below_drewN | apply below_drew1) | exact HB.out))) : w.heap.size ≤ ab)); clear HB; have HB := n0_; have aa := n1_; have GW195 := n2_; have ae := n3_; clear n0_ n1_ n2_ n3_; clear hb hbox hg) | ((with_reducible refine gate_dst (N := 3) rfl ?_); refine box_event ?hg (N := 3) ?hd (cs := #[.int .u32 am, .int .i64 al]) (t := 24) ?hr ?_; (case hd => rfl); (case hg => rfl); (case hr => first | (go_simp; done) | (go_simp; rfl)); intro ad hg w29 hbox hb; have n0_ := Aside0.mk (blk_below (g := ab) (by (with_reducible repeat (first | refine blk_drewN ?_ _ | refine blk_drew ?_ | refine blk_alloc ?_ _)); exact aa.out) hb); have n1_ := Aside0.mk (below_step (by repeat (first | (with_reducible first | exact HB.out | apply below_alloc | apply pw_below_drewN | apply below_drew1 | refine below_set ?_ ae.out) | exact HB.out)) hb); have n2_ := Aside0.mk (hbox); have n3_ := Aside0.mk ((by rw [hg]; exact (below_size (by repeat (first | (with_reducible first | exact HB.out | apply below_alloc | apply pw_below_drewN | apply below_drew1 | refine below_set ?_ ae.out) | exact HB.out))) : w.heap.size ≤ ad)); have n4_ := Aside0.mk ((by rw [hg]; exact (below_size (by repeat (first | (with_reducible first | exact HB.out | apply below_alloc | apply pw_below_drewN | apply below_drew1 | refine below_set ?_ ae.out) | exact HB.out))) : w.heap.size ≤ ad)); have n5_ := Aside0.mk ((by rw [hg]; exact Nat.ne_of_lt (blk_lt (g := ab) (o := .cells #[.int .u32 ag, .int .i64 ah, .int .i64 af, .int .i64 ai, .bool aj] 26 (0, 0)) (by (with_reducible repeat (first | refine blk_drewN ?_ _ | refine blk_drew ?_ | refine blk_alloc ?_ _)); exact aa.out)) : ab ≠ ad)); have n6_ := Aside0.mk ((by rw [hg]; exact Nat.ne_of_gt (blk_lt (g := ab) (o := .cells #[.int .u32 ag, .int .i64 ah, .int .i64 af, .int .i64 ai, .bool aj] 26 (0, 0)) (by (with_reducible repeat (first | refine blk_drewN ?_ _ | refine blk_drew ?_ | refine blk_alloc ?_ _)); exact aa.out)) : ad ≠ ab)); clear aa; clear HB; have aa := n0_; have HB := n1_; have ac := n2_; have GW196 := n3_; have ak := n4_; have NB195_196 := n5_; have NB196_195 := n6_; clear n0_ n1_ n2_ n3_ n4_ n5_ n6_; clear hb hbox hg; have hnb30 := NB195_196.out; have hnc30 := NB196_195.out; have hcz31_0 : w29.cell? ⟨ab, 0, none⟩ = some (.int .u32 ag) := (blk_cell aa.out 0).trans rfl; have hcz31_1 : w29.cell? ⟨ab, 1, none⟩ = some (.int .i64 ah) := (blk_cell aa.out 1).trans rfl; have hcz31_2 : w29.cell? ⟨ab, 2, none⟩ = some (.int .i64 af) := (blk_cell aa.out 2).trans rfl; have hcz31_3 : w29.cell? ⟨ab, 3, none⟩ = some (.int .i64 ai) := (blk_cell aa.out 3).trans rfl; have hcz31_4 : w29.cell? ⟨ab, 4, none⟩ = some (.bool aj) := (blk_cell aa.out 4).trans rfl; have hfz31_0 := blk_frozen aa.out 0; have hfz31_1 := blk_frozen aa.out 1; have hfz31_2 := blk_frozen aa.out 2; have hfz31_3 := blk_frozen aa.out 3; have hfz31_4 := blk_frozen aa.out 4) | ((with_reducible refine gate_callee (f := 11) rfl ?_); refine goesL_ (some 6) rfl rfl Try.func11 (by kernel_rfl) rfl #[.agg #[.int .u32 ag, .int .i64 ah, .int .i64 af, .int .i64 ai, .bool aj]] rfl (by (try simp only [List.map_toArray, List.map_cons, List.map_nil]); first | done | rfl) ?_; (with_reducible refine (whirligigref02_May.calls k ag ah af ai aj true _ A3.out).mono ?_); rintro e w32 ⟨rfl, hb⟩; refine ⟨_, rfl, ?_⟩; replace aa := Aside0.mk (blk_below (g := ab) (by (with_reducible repeat (first | refine blk_drewN ?_ _ | refine blk_drew ?_ | refine blk_alloc ?_ _)); exact aa.out) hb); replace ac := Aside0.mk (blk_below (g := ad) (by (with_reducible repeat (first | refine blk_drewN ?_ _ | refine blk_drew ?_ | refine blk_alloc ?_ _)); exact ac.out) hb); replace HB := Aside0.mk (below_step (by repeat (first | (with_reducible first | exact HB.out | apply below_alloc | apply pw_below_drewN | apply below_drew1 | refine below_set ?_ ae.out | refine below_set ?_ ak.out) | exact HB.out)) hb); (try clear hb); (try clear hb2); (try clear hk); (try clear hi); have hcz33_0 : w32.cell? ⟨ab, 0, none⟩ = some (.int .u32 ag) := (blk_cell aa.out 0).trans rfl; have hcz33_1 : w32.cell? ⟨ab, 1, none⟩ = some (.int .i64 ah) := (blk_cell aa.out 1).trans rfl; have hcz33_2 : w32.cell? ⟨ab, 2, none⟩ = some (.int .i64 af) := (blk_cell aa.out 2).trans rfl; have hcz33_3 : w32.cell? ⟨ab, 3, none⟩ = some (.int .i64 ai) := (blk_cell aa.out 3).trans rfl; have hcz33_4 : w32.cell? ⟨ab, 4, none⟩ = some (.bool aj) := (blk_cell aa.out 4).trans rfl; have hfz33_0 := blk_frozen aa.out 0; have hfz33_1 := blk_frozen aa.out 1; have hfz33_2 := blk_frozen aa.out 2; have hfz33_3 := blk_frozen aa.out 3; have hfz33_4 := blk_frozen aa.out 4; have hcz34_0 : w32.cell? ⟨ad, 0, none⟩ = some (.int .u32 am) := (blk_cell ac.out 0).trans rfl; have hcz34_1 : w32.cell? ⟨ad, 1, none⟩ = some (.int .i64 al) := (blk_cell ac.out 1).trans rfl; have hfz34_0 := blk_frozen ac.out 0; have hfz34_1 := blk_frozen ac.out 1) | (go_at_call 35; (with_reducible refine (whirligigref01_Contains.calls k ag ah am al false _ A5.out).mono ?_); rintro e w35 ⟨rfl, hb⟩; replace aa := Aside0.mk (blk_below (g := ab) (by (with_reducible repeat (first | refine blk_drewN ?_ _ | refine blk_drew ?_ | refine blk_alloc ?_ _)); exact aa.out) hb); replace ac := Aside0.mk (blk_below (g := ad) (by (with_reducible repeat (first | refine blk_drewN ?_ _ | refine blk_drew ?_ | refine blk_alloc ?_ _)); exact ac.out) hb); replace HB := Aside0.mk (below_step (by repeat (first | (with_reducible first | exact HB.out | apply below_alloc | apply pw_below_drewN | apply below_drew1 | refine below_set ?_ ae.out | refine below_set ?_ ak.out) | exact HB.out)) hb); (try clear hb); (try clear hb2); (try clear hk); (try clear hi)))
   go_ret
   exact ⟨by first | rfl | (simp [errW_none, errW_some] <;> rfl) | (simp [*, errW_none, errW_some] <;> rfl), by repeat (first | (with_reducible first | exact HB.out | apply below_alloc | apply pw_below_drewN | apply below_drew1 | refine below_set ?_ ae.out | refine below_set ?_ ak.out) | exact HB.out)⟩
 ·replace c4 := Bool.eq_false_iff.mpr c4
  subst c4
  have H1 : (some false) = some r := by rw [if_neg (show ¬ (false = true) by decide)] at H; exact H
  clear H
  have H := H1
  clear H1
  obtain rfl := Option.some.inj H
  go_enter Try.func18, Try.ntmps18
  go_wp2_with (first | ((with_reducible refine gate_dst (N := 2) rfl ?_); refine box_event ?hg (N := 2) ?hd (cs := #[.int .u32 ag, .int .i64 ah, .int .i64 af, .int .i64 ai, .bool aj]) (t := 26) ?hr ?_; (case hd => rfl); (case hg => rfl); (case hr => first | (go_simp; done) | (go_simp; rfl)); intro ab hg w36 hbox hb; have n0_ := Aside0.mk (below_step (by repeat (first | (with_reducible first | exact HB.out | apply below_alloc | apply pw_below_drewN | apply below_drew1) | exact HB.out)) hb); have n1_ := Aside0.mk (hbox); have n2_ := Aside0.mk ((by rw [hg]; exact (below_size (by repeat (first | (with_reducible first | exact HB.out | apply below_alloc | apply pw_below_drewN | apply below_drew1) | exact HB.out))) : w.heap.size ≤ ab)); have n3_ := Aside0.mk ((by rw [hg]; exact (below_size (by repeat (first | (with_reducible first | exact HB.out | apply below_alloc | apply pw_below_drewN | apply below_drew1) | exact HB.out))) : w.heap.size ≤ ab)); clear HB; have HB := n0_; have aa := n1_; have GW195 := n2_; have ae := n3_; clear n0_ n1_ n2_ n3_; clear hb hbox hg) | ((with_reducible refine gate_dst (N := 3) rfl ?_); refine box_event ?hg (N := 3) ?hd (cs := #[.int .u32 am, .int .i64 al]) (t := 24) ?hr ?_; (case hd => rfl); (case hg => rfl); (case hr => first | (go_simp; done) | (go_simp; rfl)); intro ad hg w37 hbox hb; have n0_ := Aside0.mk (blk_below (g := ab) (by (with_reducible repeat (first | refine blk_drewN ?_ _ | refine blk_drew ?_ | refine blk_alloc ?_ _)); exact aa.out) hb); have n1_ := Aside0.mk (below_step (by repeat (first | (with_reducible first | exact HB.out | apply below_alloc | apply pw_below_drewN | apply below_drew1 | refine below_set ?_ ae.out) | exact HB.out)) hb); have n2_ := Aside0.mk (hbox); have n3_ := Aside0.mk ((by rw [hg]; exact (below_size (by repeat (first | (with_reducible first | exact HB.out | apply below_alloc | apply pw_below_drewN | apply below_drew1 | refine below_set ?_ ae.out) | exact HB.out))) : w.heap.size ≤ ad)); have n4_ := Aside0.mk ((by rw [hg]; exact (below_size (by repeat (first | (with_reducible first | exact HB.out | apply below_alloc | apply pw_below_drewN | apply below_drew1 | refine below_set ?_ ae.out) | exact HB.out))) : w.heap.size ≤ ad)); have n5_ := Aside0.mk ((by rw [hg]; exact Nat.ne_of_lt (blk_lt (g := ab) (o := .cells #[.int .u32 ag, .int .i64 ah, .int .i64 af, .int .i64 ai, .bool aj] 26 (0, 0)) (by (with_reducible repeat (first | refine blk_drewN ?_ _ | refine blk_drew ?_ | refine blk_alloc ?_ _)); exact aa.out)) : ab ≠ ad)); have n6_ := Aside0.mk ((by rw [hg]; exact Nat.ne_of_gt (blk_lt (g := ab) (o := .cells #[.int .u32 ag, .int .i64 ah, .int .i64 af, .int .i64 ai, .bool aj] 26 (0, 0)) (by (with_reducible repeat (first | refine blk_drewN ?_ _ | refine blk_drew ?_ | refine blk_alloc ?_ _)); exact aa.out)) : ad ≠ ab)); clear aa; clear HB; have aa := n0_; have HB := n1_; have ac := n2_; have GW196 := n3_; have ak := n4_; have NB195_196 := n5_; have NB196_195 := n6_; clear n0_ n1_ n2_ n3_ n4_ n5_ n6_; clear hb hbox hg; have hnb38 := NB195_196.out; have hnc38 := NB196_195.out; have hcz39_0 : w37.cell? ⟨ab, 0, none⟩ = some (.int .u32 ag) := (blk_cell aa.out 0).trans rfl; have hcz39_1 : w37.cell? ⟨ab, 1, none⟩ = some (.int .i64 ah) := (blk_cell aa.out 1).trans rfl; have hcz39_2 : w37.cell? ⟨ab, 2, none⟩ = some (.int .i64 af) := (blk_cell aa.out 2).trans rfl; have hcz39_3 : w37.cell? ⟨ab, 3, none⟩ = some (.int .i64 ai) := (blk_cell aa.out 3).trans rfl; have hcz39_4 : w37.cell? ⟨ab, 4, none⟩ = some (.bool aj) := (blk_cell aa.out 4).trans rfl; have hfz39_0 := blk_frozen aa.out 0; have hfz39_1 := blk_frozen aa.out 1; have hfz39_2 := blk_frozen aa.out 2; have hfz39_3 := blk_frozen aa.out 3; have hfz39_4 := blk_frozen aa.out 4) | ((with_reducible refine gate_callee (f := 11) rfl ?_); refine goesL_ (some 6) rfl rfl Try.func11 (by kernel_rfl) rfl #[.agg #[.int .u32 ag, .int .i64 ah, .int .i64 af, .int .i64 ai, .bool aj]] rfl (by (try simp only [List.map_toArray, List.map_cons, List.map_nil]); first | done | rfl) ?_; (with_reducible refine (whirligigref02_May.calls k ag ah af ai aj false _ A3.out).mono ?_); rintro e w40 ⟨rfl, hb⟩; refine ⟨_, rfl, ?_⟩; replace aa := Aside0.mk (blk_below (g := ab) (by (with_reducible repeat (first | refine blk_drewN ?_ _ | refine blk_drew ?_ | refine blk_alloc ?_ _)); exact aa.out) hb); replace ac := Aside0.mk (blk_below (g := ad) (by (with_reducible repeat (first | refine blk_drewN ?_ _ | refine blk_drew ?_ | refine blk_alloc ?_ _)); exact ac.out) hb); replace HB := Aside0.mk (below_step (by repeat (first | (with_reducible first | exact HB.out | apply below_alloc | apply pw_below_drewN | apply below_drew1 | refine below_set ?_ ae.out | refine below_set ?_ ak.out) | exact HB.out)) hb); (try clear hb); (try clear hb2); (try clear hk); (try clear hi)))
  go_ret
  exact ⟨by first | rfl | (simp [errW_none, errW_some] <;> rfl) | (simp [*, errW_none, errW_some] <;> rfl), by repeat (first | (with_reducible first | exact HB.out | apply below_alloc | apply pw_below_drewN | apply below_drew1 | refine below_set ?_ ae.out | refine below_set ?_ ak.out) | exact HB.out)⟩

/-! ### whirligigref02_First: function 22 -/
def whirligigref02_First.l0 : Nat → List (S26) → Int → Int → Int → Option (Int)
  | 0, _, _, _, _ => none
  | k + 1, x0, x5, x200000, x200001 => if x5 < (x0.length : Int) then (if 0 ≤ x5 then ((whirligigref02_Met.f k ((rd_T26 x0 x5).f0.f0) ((rd_T26 x0 x5).f0.f1) ((rd_T26 x0 x5).f1) ((rd_T26 x0 x5).f2) ((rd_T26 x0 x5).f3) x200000 x200001).bind fun t201 => (if t201 = true then (some x5) else (whirligigref02_First.l0 k x0 (wrap64 (x5 + 1)) x200000 x200001))) else (none)) else (some (-1))
def whirligigref02_First.f (k : Nat) (l0 : List (S26)) (a1_0 : Int) (a1_1 : Int) : Option (Int) := whirligigref02_First.l0 k l0 0 a1_0 a1_1
theorem whirligigref02_First.mono_l : ∀ k, (∀ y0 y1 y2 y3, LeO (whirligigref02_First.l0 k y0 y1 y2 y3) (whirligigref02_First.l0 (k + 1) y0 y1 y2 y3))
  | 0 => fun _ _ _ _ r h => by simp [whirligigref02_First.l0] at h
  | k + 1 => by
    have ih0 := whirligigref02_First.mono_l k
    · intro y0 y1 y2 y3
      unfold whirligigref02_First.l0
      repeat' first
      | (with_reducible exact ih0 _ _ _ _)
      | (with_reducible exact whirligigref02_Met.mono _ _ _ _ _ _ _ _)
      | (with_reducible exact LeO.refl _)
      | (with_reducible exact LeO.none _)
      | (with_reducible refine LeO.ite ?_ ?_)
      | (with_reducible refine LeO.bind ?_ (fun _ => ?_))
      | exact ih0 _ _ _ _
      | exact whirligigref02_Met.mono _ _ _ _ _ _ _ _
      | exact LeO.none _
      | refine LeO.ite ?_ ?_
      | refine LeO.bind ?_ (fun _ => ?_)
theorem whirligigref02_First.mono : ∀ a0 a1 a2 k, LeO (whirligigref02_First.f k a0 a1 a2) (whirligigref02_First.f (k + 1) a0 a1 a2) := by
  intro a0 a1 a2 k
  have ih0 := whirligigref02_First.mono_l k
  unfold whirligigref02_First.f
  repeat' first
      | (with_reducible exact ih0 _ _ _ _)
      | (with_reducible exact whirligigref02_Met.mono _ _ _ _ _ _ _ _)
      | (with_reducible exact LeO.refl _)
      | (with_reducible exact LeO.none _)
      | (with_reducible refine LeO.ite ?_ ?_)
      | (with_reducible refine LeO.bind ?_ (fun _ => ?_))
      | exact ih0 _ _ _ _
      | exact whirligigref02_Met.mono _ _ _ _ _ _ _ _
      | exact LeO.none _
      | refine LeO.ite ?_ ?_
      | refine LeO.bind ?_ (fun _ => ?_)
theorem kf787.b2 {W : World} {g : Nat} {v0 v1 : Value} {t : TypeId} (h : W.heap[g]? = some (.cells #[v0, v1] t (0, 0))) {R : Prop} (r : R) : W.cell? ⟨g, 0, none⟩ = some v0 ∧ W.cell? ⟨g, 1, none⟩ = some v1 ∧ R :=
  ⟨(blk_cell h 0).trans rfl, (blk_cell h 1).trans rfl, r⟩
set_option maxHeartbeats 8000000 in
set_option maxRecDepth 100000 in
theorem whirligigref02_First.calls (k : Nat) (A0 : Option Addr) (c0 : Nat) (l0 : List (S26)) (ac : Int) (ad : Int) (r : Int) (w : World) (hr0 : Kd.C k26 w A0 l0.length l0) (hc0 : l0.length ≤ c0) (h : whirligigref02_First.f k l0 ac ad = some r) :
  Calls Try.prog 22 #[.slice A0 l0.length c0, .agg #[.int .u32 ac, .int .i64 ad]] w fun e w' => e = .returned (.int .i64 r) ∧ Below w.heap.size w w' := by
 have hu24 := Try.underlying24
 have hu26 := Try.underlying26
 have HR0 := Aside0.mk hr0
 have HC0 := Aside0.mk hc0
 clear hr0 hc0
 have HB := Aside0.mk (Below.refl w.heap.size w)
 have H : (whirligigref02_First.l0 k l0 0 ac ad) = some r := h
 clear h
 have H' := Aside0.mk H
 clear H
 go_enter Try.func22, Try.ntmps22
 go_wp2_with (first | ((with_reducible refine gate_dst (N := 3) rfl ?_); refine box_event ?hg (N := 3) ?hd (cs := #[.int .u32 ac, .int .i64 ad]) (t := 24) ?hr ?_; (case hd => rfl); (case hg => rfl); (case hr => first | (go_simp; done) | (go_simp; rfl)); intro ab hg w3 hbox hb; have n0_ := Aside0.mk (below_step (by repeat (first | (with_reducible first | exact HB.out | apply below_alloc | apply pw_below_drewN | apply below_drew1) | exact HB.out)) hb); have n1_ := Aside0.mk (hbox); have n2_ := Aside0.mk ((by rw [hg]; exact (below_size (by repeat (first | (with_reducible first | exact HB.out | apply below_alloc | apply pw_below_drewN | apply below_drew1) | exact HB.out))) : w.heap.size ≤ ab)); have n3_ := Aside0.mk ((by rw [hg]; exact (below_size (by repeat (first | (with_reducible first | exact HB.out | apply below_alloc | apply pw_below_drewN | apply below_drew1) | exact HB.out))) : w.heap.size ≤ ab)); clear HB; have HB := n0_; have aa := n1_; have GW199 := n2_; have GE199 := n3_; clear n0_ n1_ n2_ n3_; clear hb hbox hg))
 go_loopg [5] k (fun kq v5 w' => ∃ (x5_1 : Int), v5 = .int .i64 x5_1 ∧ Aside0 (whirligigref02_First.l0 kq l0 x5_1 ac ad = some r) ∧ Aside0 (kq ≤ k) ∧ Aside0 (w'.heap[ab]? = some (.cells #[.int .u32 ac, .int .i64 ad] 24 (0, 0))) ∧ Aside0 (Below w.heap.size w w'))
 case atStart => exact ⟨(0), (by first | rfl | (simp; done) | (simp [*]; done)), H', ⟨Nat.le_refl _⟩, ⟨by (with_reducible repeat (first | refine blk_drewN ?_ _ | refine blk_drew ?_ | refine blk_alloc ?_ _)); exact aa.out⟩, ⟨by repeat (first | (with_reducible first | exact HB.out | apply below_alloc | apply pw_below_drewN | apply below_drew1 | refine below_set ?_ GE199.out) | exact HB.out)⟩⟩
 case round =>
  clear H'
  try clear c2
  try clear p2
  obtain ⟨x5_1, rfl, HA, HK1, aa, HB⟩ := hrel
  cases gk with
  | zero => exact absurd HA.out (by simp [whirligigref02_First.l0])
  | succ k1 =>
   have H := HA.out
   clear HA
   simp only [whirligigref02_First.l0] at H
   by_cases c4 : x5_1 < (l0.length : Int)
   ·rw [if_pos c4] at H
    have c4b0 : decide (x5_1 < (l0.length : Int)) = true := decide_eq_true c4
    clear c4
    by_cases c5 : 0 ≤ x5_1
    ·rw [if_pos c5] at H
     have c5b0 : decide (0 ≤ x5_1) = true := decide_eq_true c5
     clear c5
     replace H := Option.bind_eq_some_iff.mp H
     obtain ⟨t201, A60, H⟩ := H
     (try dsimp only at H)
     have A6 := Aside0.mk A60
     clear A60
     by_cases c7 : t201 = true
     ·subst c7
      have H1 : (some x5_1) = some r := by rw [if_pos rfl] at H; exact H
      clear H
      have H := H1
      clear H1
      obtain rfl := Option.some.inj H
      try go_wp2
      replace aa := Aside0.mk (blk_drew aa.out)
      replace HB := Aside0.mk (below_drew1 HB.out)
      have p200 : 0 ≤ (x5_1 : Int) := of_decide_eq_true (by first | (with_reducible assumption) | assumption)
      have q200 : x5_1 < (l0.length : Int) := of_decide_eq_true (by first | (with_reducible assumption) | assumption)
      obtain ⟨ad200, e200, hx200_0, hx200_1, hx200_2, hx200_3, hx200_4⟩ := at_T26 HR0.out x5_1 p200 q200
      have hw200_4 := hx200_4
      have hw200_3 := hx200_3
      have hw200_2 := hx200_2
      have hw200_1 := hx200_1
      have hw200_0 := hx200_0
      (try (injection e200 with e200; replace e200 := e200.symm; subst e200; have e200 : True := trivial))
      cases e200
      replace hx200_0 := (HB.out.cell (World.block_lt_of_cell? w _ hx200_0)).trans hx200_0
      replace hx200_1 := (HB.out.cell (World.block_lt_of_cell? w _ hx200_1)).trans hx200_1
      replace hx200_2 := (HB.out.cell (World.block_lt_of_cell? w _ hx200_2)).trans hx200_2
      replace hx200_3 := (HB.out.cell (World.block_lt_of_cell? w _ hx200_3)).trans hx200_3
      replace hx200_4 := (HB.out.cell (World.block_lt_of_cell? w _ hx200_4)).trans hx200_4
      replace p200 := eq_true p200
      replace q200 := eq_true q200
      refine start_ (n := 6) (S := fun w' => w'.cell? ⟨ab, 0, none⟩ = some (.int .u32 ac) ∧ w'.cell? ⟨ab, 1, none⟩ = some (.int .i64 ad) ∧ w'.cell? (ad200.add ((x5_1).toNat * 5)) = some (.int .u32 ((rd_T26 l0 x5_1).f0.f0)) ∧ w'.cell? ⟨(ad200.add ((x5_1).toNat * 5)).block, (ad200.add ((x5_1).toNat * 5)).off + 1, none⟩ = some (.int .i64 ((rd_T26 l0 x5_1).f0.f1)) ∧ w'.cell? ⟨(ad200.add ((x5_1).toNat * 5)).block, (ad200.add ((x5_1).toNat * 5)).off + 2, none⟩ = some (.int .i64 ((rd_T26 l0 x5_1).f1)) ∧ w'.cell? ⟨(ad200.add ((x5_1).toNat * 5)).block, (ad200.add ((x5_1).toNat * 5)).off + 3, none⟩ = some (.int .i64 ((rd_T26 l0 x5_1).f2)) ∧ w'.cell? ⟨(ad200.add ((x5_1).toNat * 5)).block, (ad200.add ((x5_1).toNat * 5)).off + 4, none⟩ = some (.bool ((rd_T26 l0 x5_1).f3))) (ds := []) #[false, false, false, false, false, false] (by kernel_rfl) rfl rfl (kf787.b2 aa.out ⟨((HB.out.cell (World.block_lt_of_cell? w _ hw200_0)).trans hw200_0), ⟨((HB.out.cell (World.block_lt_of_cell? w _ hw200_1)).trans hw200_1), ⟨((HB.out.cell (World.block_lt_of_cell? w _ hw200_2)).trans hw200_2), ⟨((HB.out.cell (World.block_lt_of_cell? w _ hw200_3)).trans hw200_3), ((HB.out.cell (World.block_lt_of_cell? w _ hw200_4)).trans hw200_4)⟩⟩⟩⟩) (fun hHeld => ?_)
      generalize wr.drew = w8 at aa HB hx200_0 hx200_1 hx200_2 hx200_3 hx200_4 hHeld ⊢
      refine pure_ (i := 0) (N := some 12) (v := ?_) (a' := ?_) #[true, false, false, false, false, false] rfl rfl (by kernel_rfl) (fun _ _ _ h => h) (Or.inl ⟨by rfl, ?_⟩) ?_ ?_
      rotate_left
      ·intro w'
       go_simp
       with_reducible rfl
      rotate_left
      ·simp only [Act.put, List.setIfInBounds_toArray, List.set_cons_zero, List.set_cons_succ, i64_w]
       rfl
      refine pure_ (i := 1) (N := some 13) (v := ?_) (a' := ?_) #[true, true, false, false, false, false] rfl rfl (by kernel_rfl) (fun _ _ _ h => h) (Or.inl ⟨by rfl, ?_⟩) ?_ ?_
      rotate_left
      ·intro w'
       go_simp
       with_reducible rfl
      rotate_left
      ·simp only [Act.put, List.setIfInBounds_toArray, List.set_cons_zero, List.set_cons_succ, i64_w]
       rfl
      refine pure_ (i := 2) (N := some 14) (v := ?_) (a' := ?_) #[true, true, true, false, false, false] rfl rfl (by kernel_rfl) (fun _ _ _ h => h) (Or.inl ⟨by rfl, ?_⟩) ?_ ?_
      rotate_left
      ·intro w'
       go_simp
       with_reducible rfl
      rotate_left
      ·simp only [Act.put, List.setIfInBounds_toArray, List.set_cons_zero, List.set_cons_succ, i64_w]
       rfl
      refine take_ (i := 3) (N := some 15) (v := ?_) (a' := ?_) #[true, true, true, true, false, false] rfl rfl (by kernel_rfl) (fun _ _ _ h => h) (Or.inl ⟨by rfl, ?_⟩) hHeld ?_ ?_
      rotate_left
      ·rintro w' ⟨s0, s1, s2, s3, s4, s5, s6⟩
       go_simp
       with_reducible rfl
      rotate_left
      ·simp only [Act.put, List.setIfInBounds_toArray, List.set_cons_zero, List.set_cons_succ, i64_w]
       rfl
      refine take_ (i := 4) (N := some 16) (v := ?_) (a' := ?_) #[true, true, true, true, true, false] rfl rfl (by kernel_rfl) (fun _ _ _ h => h) (Or.inl ⟨by rfl, ?_⟩) hHeld ?_ ?_
      rotate_left
      ·rintro w' ⟨s0, s1, s2, s3, s4, s5, s6⟩
       go_simp
       with_reducible rfl
      rotate_left
      ·simp only [Act.put, List.setIfInBounds_toArray, List.set_cons_zero, List.set_cons_succ, i64_w]
       rfl
      refine one_ (i := 5) (N := some 17) #[true, true, true, true, true, true] rfl rfl (by kernel_rfl) (by decide) (fun K hK => ?_)
      refine goes_ Try.func18 (by kernel_rfl) rfl #[.agg #[.int .u32 ((rd_T26 l0 x5_1).f0.f0), .int .i64 ((rd_T26 l0 x5_1).f0.f1), .int .i64 ((rd_T26 l0 x5_1).f1), .int .i64 ((rd_T26 l0 x5_1).f2), .bool ((rd_T26 l0 x5_1).f3)], .agg #[.int .u32 ac, .int .i64 ad]] (by rfl) rfl rfl (by (try simp only [List.map_toArray, List.map_cons, List.map_nil]); first | done | rfl) ?_
      with_reducible refine (whirligigref02_Met.calls k1 ((rd_T26 l0 x5_1).f0.f0) ((rd_T26 l0 x5_1).f0.f1) ((rd_T26 l0 x5_1).f1) ((rd_T26 l0 x5_1).f2) ((rd_T26 l0 x5_1).f3) ac ad true _ A6.out).mono ?_
      rintro e w9 ⟨rfl, hb⟩
      refine ⟨_, rfl, ?_⟩
      replace aa := Aside0.mk (blk_below (g := ab) (by (with_reducible repeat (first | refine blk_drewN ?_ _ | refine blk_drew ?_ | refine blk_alloc ?_ _)); exact aa.out) hb)
      replace HB := Aside0.mk (below_step (by repeat (first | (with_reducible first | exact HB.out | apply below_alloc | apply pw_below_drewN | apply below_drew1 | refine below_set ?_ GE199.out) | exact HB.out)) hb)
      (try clear hb)
      (try clear hb2)
      (try clear hk)
      (try clear hi)
      refine hK.out _ _ (kf787.b2 aa.out ⟨((HB.out.cell (World.block_lt_of_cell? w _ hw200_0)).trans hw200_0), ⟨((HB.out.cell (World.block_lt_of_cell? w _ hw200_1)).trans hw200_1), ⟨((HB.out.cell (World.block_lt_of_cell? w _ hw200_2)).trans hw200_2), ⟨((HB.out.cell (World.block_lt_of_cell? w _ hw200_3)).trans hw200_3), ((HB.out.cell (World.block_lt_of_cell? w _ hw200_4)).trans hw200_4)⟩⟩⟩⟩) (fun hHeld => ?_)
      clear hK K
      refine norm_ (a' := ?_) ?_ ?_
      rotate_left
      ·show Act.put _ (some 17) _ = _
       simp only [Act.put, List.setIfInBounds_toArray, List.set_cons_zero, List.set_cons_succ, i64_w]
       rfl
      refine done_ (by kernel_rfl) ?_
      try go_wp2
      go_ret
      exact ⟨by first | rfl | (simp [errW_none, errW_some] <;> rfl) | (simp [*, errW_none, errW_some] <;> rfl), by repeat (first | (with_reducible first | exact HB.out | apply below_alloc | apply pw_below_drewN | apply below_drew1 | refine below_set ?_ GE199.out) | exact HB.out)⟩
     ·replace c7 := Bool.eq_false_iff.mpr c7
      subst c7
      have H1 : (whirligigref02_First.l0 k1 l0 (wrap64 (x5_1 + 1)) ac ad) = some r := by rw [if_neg (show ¬ (false = true) by decide)] at H; exact H
      clear H
      have H := H1
      clear H1
      have H' := Aside0.mk H
      clear H
      try go_wp2
      replace aa := Aside0.mk (blk_drew aa.out)
      replace HB := Aside0.mk (below_drew1 HB.out)
      have p200 : 0 ≤ (x5_1 : Int) := of_decide_eq_true (by first | (with_reducible assumption) | assumption)
      have q200 : x5_1 < (l0.length : Int) := of_decide_eq_true (by first | (with_reducible assumption) | assumption)
      obtain ⟨ad200, e200, hx200_0, hx200_1, hx200_2, hx200_3, hx200_4⟩ := at_T26 HR0.out x5_1 p200 q200
      have hw200_4 := hx200_4
      have hw200_3 := hx200_3
      have hw200_2 := hx200_2
      have hw200_1 := hx200_1
      have hw200_0 := hx200_0
      (try (injection e200 with e200; replace e200 := e200.symm; subst e200; have e200 : True := trivial))
      cases e200
      replace hx200_0 := (HB.out.cell (World.block_lt_of_cell? w _ hx200_0)).trans hx200_0
      replace hx200_1 := (HB.out.cell (World.block_lt_of_cell? w _ hx200_1)).trans hx200_1
      replace hx200_2 := (HB.out.cell (World.block_lt_of_cell? w _ hx200_2)).trans hx200_2
      replace hx200_3 := (HB.out.cell (World.block_lt_of_cell? w _ hx200_3)).trans hx200_3
      replace hx200_4 := (HB.out.cell (World.block_lt_of_cell? w _ hx200_4)).trans hx200_4
      replace p200 := eq_true p200
      replace q200 := eq_true q200
      refine start_ (n := 6) (S := fun w' => w'.cell? ⟨ab, 0, none⟩ = some (.int .u32 ac) ∧ w'.cell? ⟨ab, 1, none⟩ = some (.int .i64 ad) ∧ w'.cell? (ad200.add ((x5_1).toNat * 5)) = some (.int .u32 ((rd_T26 l0 x5_1).f0.f0)) ∧ w'.cell? ⟨(ad200.add ((x5_1).toNat * 5)).block, (ad200.add ((x5_1).toNat * 5)).off + 1, none⟩ = some (.int .i64 ((rd_T26 l0 x5_1).f0.f1)) ∧ w'.cell? ⟨(ad200.add ((x5_1).toNat * 5)).block, (ad200.add ((x5_1).toNat * 5)).off + 2, none⟩ = some (.int .i64 ((rd_T26 l0 x5_1).f1)) ∧ w'.cell? ⟨(ad200.add ((x5_1).toNat * 5)).block, (ad200.add ((x5_1).toNat * 5)).off + 3, none⟩ = some (.int .i64 ((rd_T26 l0 x5_1).f2)) ∧ w'.cell? ⟨(ad200.add ((x5_1).toNat * 5)).block, (ad200.add ((x5_1).toNat * 5)).off + 4, none⟩ = some (.bool ((rd_T26 l0 x5_1).f3))) (ds := []) #[false, false, false, false, false, false] (by kernel_rfl) rfl rfl (kf787.b2 aa.out ⟨((HB.out.cell (World.block_lt_of_cell? w _ hw200_0)).trans hw200_0), ⟨((HB.out.cell (World.block_lt_of_cell? w _ hw200_1)).trans hw200_1), ⟨((HB.out.cell (World.block_lt_of_cell? w _ hw200_2)).trans hw200_2), ⟨((HB.out.cell (World.block_lt_of_cell? w _ hw200_3)).trans hw200_3), ((HB.out.cell (World.block_lt_of_cell? w _ hw200_4)).trans hw200_4)⟩⟩⟩⟩) (fun hHeld => ?_)
      generalize wr.drew = w10 at aa HB hx200_0 hx200_1 hx200_2 hx200_3 hx200_4 hHeld ⊢
      refine pure_ (i := 0) (N := some 12) (v := ?_) (a' := ?_) #[true, false, false, false, false, false] rfl rfl (by kernel_rfl) (fun _ _ _ h => h) (Or.inl ⟨by rfl, ?_⟩) ?_ ?_
      rotate_left
      ·intro w'
       go_simp
       with_reducible rfl
      rotate_left
      ·simp only [Act.put, List.setIfInBounds_toArray, List.set_cons_zero, List.set_cons_succ, i64_w]
       rfl
      refine pure_ (i := 1) (N := some 13) (v := ?_) (a' := ?_) #[true, true, false, false, false, false] rfl rfl (by kernel_rfl) (fun _ _ _ h => h) (Or.inl ⟨by rfl, ?_⟩) ?_ ?_
      rotate_left
      ·intro w'
       go_simp
       with_reducible rfl
      rotate_left
      ·simp only [Act.put, List.setIfInBounds_toArray, List.set_cons_zero, List.set_cons_succ, i64_w]
       rfl
      refine pure_ (i := 2) (N := some 14) (v := ?_) (a' := ?_) #[true, true, true, false, false, false] rfl rfl (by kernel_rfl) (fun _ _ _ h => h) (Or.inl ⟨by rfl, ?_⟩) ?_ ?_
      rotate_left
      ·intro w'
       go_simp
       with_reducible rfl
      rotate_left
      ·simp only [Act.put, List.setIfInBounds_toArray, List.set_cons_zero, List.set_cons_succ, i64_w]
       rfl
      refine take_ (i := 3) (N := some 15) (v := ?_) (a' := ?_) #[true, true, true, true, false, false] rfl rfl (by kernel_rfl) (fun _ _ _ h => h) (Or.inl ⟨by rfl, ?_⟩) hHeld ?_ ?_
      rotate_left
      ·rintro w' ⟨s0, s1, s2, s3, s4, s5, s6⟩
       go_simp
       with_reducible rfl
      rotate_left
      ·simp only [Act.put, List.setIfInBounds_toArray, List.set_cons_zero, List.set_cons_succ, i64_w]
       rfl
      refine take_ (i := 4) (N := some 16) (v := ?_) (a' := ?_) #[true, true, true, true, true, false] rfl rfl (by kernel_rfl) (fun _ _ _ h => h) (Or.inl ⟨by rfl, ?_⟩) hHeld ?_ ?_
      rotate_left
      ·rintro w' ⟨s0, s1, s2, s3, s4, s5, s6⟩
       go_simp
       with_reducible rfl
      rotate_left
      ·simp only [Act.put, List.setIfInBounds_toArray, List.set_cons_zero, List.set_cons_succ, i64_w]
       rfl
      refine one_ (i := 5) (N := some 17) #[true, true, true, true, true, true] rfl rfl (by kernel_rfl) (by decide) (fun K hK => ?_)
      refine goes_ Try.func18 (by kernel_rfl) rfl #[.agg #[.int .u32 ((rd_T26 l0 x5_1).f0.f0), .int .i64 ((rd_T26 l0 x5_1).f0.f1), .int .i64 ((rd_T26 l0 x5_1).f1), .int .i64 ((rd_T26 l0 x5_1).f2), .bool ((rd_T26 l0 x5_1).f3)], .agg #[.int .u32 ac, .int .i64 ad]] (by rfl) rfl rfl (by (try simp only [List.map_toArray, List.map_cons, List.map_nil]); first | done | rfl) ?_
      with_reducible refine (whirligigref02_Met.calls k1 ((rd_T26 l0 x5_1).f0.f0) ((rd_T26 l0 x5_1).f0.f1) ((rd_T26 l0 x5_1).f1) ((rd_T26 l0 x5_1).f2) ((rd_T26 l0 x5_1).f3) ac ad false _ A6.out).mono ?_
      rintro e w11 ⟨rfl, hb⟩
      refine ⟨_, rfl, ?_⟩
      replace aa := Aside0.mk (blk_below (g := ab) (by (with_reducible repeat (first | refine blk_drewN ?_ _ | refine blk_drew ?_ | refine blk_alloc ?_ _)); exact aa.out) hb)
      replace HB := Aside0.mk (below_step (by repeat (first | (with_reducible first | exact HB.out | apply below_alloc | apply pw_below_drewN | apply below_drew1 | refine below_set ?_ GE199.out) | exact HB.out)) hb)
      (try clear hb)
      (try clear hb2)
      (try clear hk)
      (try clear hi)
      refine hK.out _ _ (kf787.b2 aa.out ⟨((HB.out.cell (World.block_lt_of_cell? w _ hw200_0)).trans hw200_0), ⟨((HB.out.cell (World.block_lt_of_cell? w _ hw200_1)).trans hw200_1), ⟨((HB.out.cell (World.block_lt_of_cell? w _ hw200_2)).trans hw200_2), ⟨((HB.out.cell (World.block_lt_of_cell? w _ hw200_3)).trans hw200_3), ((HB.out.cell (World.block_lt_of_cell? w _ hw200_4)).trans hw200_4)⟩⟩⟩⟩) (fun hHeld => ?_)
      clear hK K
      refine norm_ (a' := ?_) ?_ ?_
      rotate_left
      ·show Act.put _ (some 17) _ = _
       simp only [Act.put, List.setIfInBounds_toArray, List.set_cons_zero, List.set_cons_succ, i64_w]
       rfl
      refine done_ (by kernel_rfl) ?_
      try go_wp2
      go_roundg k1
      case measure => have := HK1.out; omega
      case rel => exact ⟨(wrap64 (x5_1 + 1)), (by first | rfl | (simp; done) | (simp [*]; done)), H', ⟨by have := HK1.out; omega⟩, ⟨by (with_reducible repeat (first | refine blk_drewN ?_ _ | refine blk_drew ?_ | refine blk_alloc ?_ _)); exact aa.out⟩, ⟨by repeat (first | (with_reducible first | exact HB.out | apply below_alloc | apply pw_below_drewN | apply below_drew1 | refine below_set ?_ GE199.out) | exact HB.out)⟩⟩
    ·rw [if_neg c5] at H
     exact absurd H (by simp)
   ·rw [if_neg c4] at H
    have c4b0 : decide (x5_1 < (l0.length : Int)) = false := decide_eq_false c4
    clear c4
    obtain rfl := Option.some.inj H
    go_wp2
    go_ret
    exact ⟨by first | rfl | (simp [errW_none, errW_some] <;> rfl) | (simp [*, errW_none, errW_some] <;> rfl), by repeat (first | (with_reducible first | exact HB.out | apply below_alloc | apply pw_below_drewN | apply below_drew1 | refine below_set ?_ GE199.out) | exact HB.out)⟩

/-! ### whirligigref02_Lets: function 14 -/
def whirligigref02_Lets.f (k : Nat) (l0 : List (S26)) (a1_0 : Int) (a1_1 : Int) : Option (Bool × Int) := (whirligigref02_Why.f k l0).bind fun t203 => (if t203 = 0 then ((whirligigref01_May.f k a1_0 a1_1).bind fun t204 => (if t204 = true then ((whirligigref02_First.f k l0 a1_0 a1_1).bind fun t205 => (if t205 ≥ 0 then (if 0 ≤ t205 then (if t205 < (l0.length : Int) then (some ((rd_T26 l0 t205).f3, t205)) else (none)) else (none)) else (some (false, t205)))) else (some (false, (-1))))) else (some (false, (-1))))
theorem whirligigref02_Lets.mono : ∀ a0 a1 a2 k, LeO (whirligigref02_Lets.f k a0 a1 a2) (whirligigref02_Lets.f (k + 1) a0 a1 a2) := by
  intro a0 a1 a2 k
  unfold whirligigref02_Lets.f
  repeat' first
      | (with_reducible exact whirligigref01_May.mono _ _ _)
      | (with_reducible exact whirligigref02_First.mono _ _ _ _)
      | (with_reducible exact whirligigref02_Why.mono _ _)
      | (with_reducible exact LeO.refl _)
      | (with_reducible exact LeO.none _)
      | (with_reducible refine LeO.ite ?_ ?_)
      | (with_reducible refine LeO.bind ?_ (fun _ => ?_))
      | exact whirligigref01_May.mono _ _ _
      | exact whirligigref02_First.mono _ _ _ _
      | exact whirligigref02_Why.mono _ _
      | exact LeO.none _
      | refine LeO.ite ?_ ?_
      | refine LeO.bind ?_ (fun _ => ?_)
set_option maxHeartbeats 8000000 in
set_option maxRecDepth 100000 in
theorem whirligigref02_Lets.calls (k : Nat) (A0 : Option Addr) (c0 : Nat) (l0 : List (S26)) (ad : Int) (ae : Int) (r1 : Bool) (r2 : Int) (w : World) (hr0 : Kd.C k26 w A0 l0.length l0) (hc0 : l0.length ≤ c0) (h : whirligigref02_Lets.f k l0 ad ae = some (r1, r2)) :
  Calls Try.prog 14 #[.slice A0 l0.length c0, .agg #[.int .u32 ad, .int .i64 ae]] w fun e w' => e = .returned (.tuple #[.bool r1, .int .i64 r2]) ∧ Below w.heap.size w w' := by
 have hu24 := Try.underlying24
 have HR0 := Aside0.mk hr0
 have HC0 := Aside0.mk hc0
 clear hr0 hc0
 have HB := Aside0.mk (Below.refl w.heap.size w)
 have H := h
 unfold whirligigref02_Lets.f at H
 clear h
 replace H := Option.bind_eq_some_iff.mp H
 obtain ⟨t203, A30, H⟩ := H
 (try dsimp only at H)
 have A3 := Aside0.mk A30
 clear A30
 by_cases c4 : t203 = 0
 ·rw [if_pos c4] at H
  have c4b0 : (t203 == 0) = true := beq_iff_eq.mpr c4
  have c4b1 : (t203 != 0) = false := bne_eq_false_iff_eq.mpr c4
  clear c4
  replace H := Option.bind_eq_some_iff.mp H
  obtain ⟨t204, A50, H⟩ := H
  (try dsimp only at H)
  have A5 := Aside0.mk A50
  clear A50
  by_cases c6 : t204 = true
  ·subst c6
   have H1 := H
   rw [if_pos rfl] at H1
   clear H
   have H := H1
   clear H1
   replace H := Option.bind_eq_some_iff.mp H
   obtain ⟨t205, A70, H⟩ := H
   (try dsimp only at H)
   have A7 := Aside0.mk A70
   clear A70
   by_cases c8 : t205 ≥ 0
   ·rw [if_pos c8] at H
    have c8b0 : decide (0 ≤ t205) = true := decide_eq_true c8
    clear c8
    by_cases c9 : 0 ≤ t205
    ·rw [if_pos c9] at H
     have c9b0 : decide (0 ≤ t205) = true := decide_eq_true c9
     clear c9
     by_cases c10 : t205 < (l0.length : Int)
     ·rw [if_pos c10] at H
      have c10b0 : decide (t205 < (l0.length : Int)) = true := decide_eq_true c10
      clear c10
      simp only [Option.some.injEq, Prod.mk.injEq] at H
      obtain ⟨rfl, rfl⟩ := H
      go_enter Try.func14, Try.ntmps14
      go_wp2_with (first | ((with_reducible refine gate_dst (N := 3) rfl ?_); refine box_event ?hg (N := 3) ?hd (cs := #[.int .u32 ad, .int .i64 ae]) (t := 24) ?hr ?_; (case hd => rfl); (case hg => rfl); (case hr => first | (go_simp; done) | (go_simp; rfl)); intro ab hg w11 hbox hb; have n0_ := Aside0.mk (below_step (by repeat (first | (with_reducible first | exact HB.out | apply below_alloc | apply pw_below_drewN | apply below_drew1) | exact HB.out)) hb); have n1_ := Aside0.mk (hbox); have n2_ := Aside0.mk ((by rw [hg]; exact (below_size (by repeat (first | (with_reducible first | exact HB.out | apply below_alloc | apply pw_below_drewN | apply below_drew1) | exact HB.out))) : w.heap.size ≤ ab)); have n3_ := Aside0.mk ((by rw [hg]; exact (below_size (by repeat (first | (with_reducible first | exact HB.out | apply below_alloc | apply pw_below_drewN | apply below_drew1) | exact HB.out))) : w.heap.size ≤ ab)); clear HB; have HB := n0_; have aa := n1_; have GW202 := n2_; have ac := n3_; clear n0_ n1_ n2_ n3_; clear hb hbox hg) | ((with_reducible refine gate_callee (f := 16) rfl ?_); refine goesL_ (some 8) rfl rfl Try.func16 (by kernel_rfl) rfl #[.slice A0 l0.length c0] rfl (by (try simp only [List.map_toArray, List.map_cons, List.map_nil]); first | done | rfl) ?_; (with_reducible refine (whirligigref02_Why.calls k _ _ l0 t203 _ ?side1 ?side2 A3.out).mono ?_); (case side1 => repeat (first | exact (Kd.C_below HR0.out HB.out) | (with_reducible refine Kd.C_alloc ?_ _) | (with_reducible refine Kd.C_drewN ?_ _) | (with_reducible refine Kd.C_drew ?_))); (case side2 => exact HC0.out); rintro e w12 ⟨rfl, hb⟩; refine ⟨_, rfl, ?_⟩; replace aa := Aside0.mk (blk_below (g := ab) (by (with_reducible repeat (first | refine blk_drewN ?_ _ | refine blk_drew ?_ | refine blk_alloc ?_ _)); exact aa.out) hb); replace HB := Aside0.mk (below_step (by repeat (first | (with_reducible first | exact HB.out | apply below_alloc | apply pw_below_drewN | apply below_drew1 | refine below_set ?_ ac.out) | exact HB.out)) hb); (try clear hb); (try clear af); (try clear hk); (try clear hi); have hcz13_0 : w12.cell? ⟨ab, 0, none⟩ = some (.int .u32 ad) := (blk_cell aa.out 0).trans rfl; have hcz13_1 : w12.cell? ⟨ab, 1, none⟩ = some (.int .i64 ae) := (blk_cell aa.out 1).trans rfl; have hfz13_0 := blk_frozen aa.out 0; have hfz13_1 := blk_frozen aa.out 1) | (go_at_call 19; (with_reducible refine (whirligigref01_May.calls k ad ae true _ A5.out).mono ?_); rintro e w14 ⟨rfl, hb⟩; replace aa := Aside0.mk (blk_below (g := ab) (by (with_reducible repeat (first | refine blk_drewN ?_ _ | refine blk_drew ?_ | refine blk_alloc ?_ _)); exact aa.out) hb); replace HB := Aside0.mk (below_step (by repeat (first | (with_reducible first | exact HB.out | apply below_alloc | apply pw_below_drewN | apply below_drew1 | refine below_set ?_ ac.out) | exact HB.out)) hb); (try clear hb); (try clear af); (try clear hk); (try clear hi); have hcz15_0 : w14.cell? ⟨ab, 0, none⟩ = some (.int .u32 ad) := (blk_cell aa.out 0).trans rfl; have hcz15_1 : w14.cell? ⟨ab, 1, none⟩ = some (.int .i64 ae) := (blk_cell aa.out 1).trans rfl; have hfz15_0 := blk_frozen aa.out 0; have hfz15_1 := blk_frozen aa.out 1) | ((with_reducible refine gate_callee (f := 22) rfl ?_); refine goesL_ (some 17) rfl rfl Try.func22 (by kernel_rfl) rfl #[.slice A0 l0.length c0, .agg #[.int .u32 ad, .int .i64 ae]] rfl (by (try simp only [List.map_toArray, List.map_cons, List.map_nil]); first | done | rfl) ?_; (with_reducible refine (whirligigref02_First.calls k _ _ l0 ad ae t205 _ ?side1 ?side2 A7.out).mono ?_); (case side1 => repeat (first | exact (Kd.C_below HR0.out HB.out) | (with_reducible refine Kd.C_alloc ?_ _) | (with_reducible refine Kd.C_drewN ?_ _) | (with_reducible refine Kd.C_drew ?_))); (case side2 => exact HC0.out); rintro e w16 ⟨rfl, hb⟩; refine ⟨_, rfl, ?_⟩; replace aa := Aside0.mk (blk_below (g := ab) (by (with_reducible repeat (first | refine blk_drewN ?_ _ | refine blk_drew ?_ | refine blk_alloc ?_ _)); exact aa.out) hb); replace HB := Aside0.mk (below_step (by repeat (first | (with_reducible first | exact HB.out | apply below_alloc | apply pw_below_drewN | apply below_drew1 | refine below_set ?_ ac.out) | exact HB.out)) hb); (try clear hb); (try clear af); (try clear hk); (try clear hi); have p206 : 0 ≤ (t205 : Int) := of_decide_eq_true (by first | (with_reducible assumption) | assumption); have q206 : t205 < (l0.length : Int) := of_decide_eq_true (by first | (with_reducible assumption) | assumption); obtain ⟨ad206, e206, hx206_0, hx206_1, hx206_2, hx206_3, hx206_4⟩ := at_T26 HR0.out t205 p206 q206; (try (injection e206 with e206; replace e206 := e206.symm; subst e206; have e206 : True := trivial)); cases e206; replace hx206_0 := (HB.out.cell (World.block_lt_of_cell? w _ hx206_0)).trans hx206_0; replace hx206_1 := (HB.out.cell (World.block_lt_of_cell? w _ hx206_1)).trans hx206_1; replace hx206_2 := (HB.out.cell (World.block_lt_of_cell? w _ hx206_2)).trans hx206_2; replace hx206_3 := (HB.out.cell (World.block_lt_of_cell? w _ hx206_3)).trans hx206_3; replace hx206_4 := (HB.out.cell (World.block_lt_of_cell? w _ hx206_4)).trans hx206_4; replace p206 := eq_true p206; replace q206 := eq_true q206))
      go_ret2
      exact ⟨by first | rfl | (simp [errW_none, errW_some] <;> rfl) | (simp [*, errW_none, errW_some] <;> rfl), by repeat (first | (with_reducible first | exact HB.out | apply below_alloc | apply pw_below_drewN | apply below_drew1 | refine below_set ?_ ac.out) | exact HB.out)⟩
     ·rw [if_neg c10] at H
      exact absurd H (by simp)
    ·rw [if_neg c9] at H
     exact absurd H (by simp)
   ·rw [if_neg c8] at H
    have c8b0 : decide (0 ≤ t205) = false := decide_eq_false c8
    clear c8
    simp only [Option.some.injEq, Prod.mk.injEq] at H
    obtain ⟨rfl, rfl⟩ := H
    go_enter Try.func14, Try.ntmps14
    go_wp2_with (first | ((with_reducible refine gate_dst (N := 3) rfl ?_); refine box_event ?hg (N := 3) ?hd (cs := #[.int .u32 ad, .int .i64 ae]) (t := 24) ?hr ?_; (case hd => rfl); (case hg => rfl); (case hr => first | (go_simp; done) | (go_simp; rfl)); intro ab hg w17 hbox hb; have n0_ := Aside0.mk (below_step (by repeat (first | (with_reducible first | exact HB.out | apply below_alloc | apply pw_below_drewN | apply below_drew1) | exact HB.out)) hb); have n1_ := Aside0.mk (hbox); have n2_ := Aside0.mk ((by rw [hg]; exact (below_size (by repeat (first | (with_reducible first | exact HB.out | apply below_alloc | apply pw_below_drewN | apply below_drew1) | exact HB.out))) : w.heap.size ≤ ab)); have n3_ := Aside0.mk ((by rw [hg]; exact (below_size (by repeat (first | (with_reducible first | exact HB.out | apply below_alloc | apply pw_below_drewN | apply below_drew1) | exact HB.out))) : w.heap.size ≤ ab)); clear HB; have HB := n0_; have aa := n1_; have GW202 := n2_; have ac := n3_; clear n0_ n1_ n2_ n3_; clear hb hbox hg) | ((with_reducible refine gate_callee (f := 16) rfl ?_); refine goesL_ (some 8) rfl rfl Try.func16 (by kernel_rfl) rfl #[.slice A0 l0.length c0] rfl (by (try simp only [List.map_toArray, List.map_cons, List.map_nil]); first | done | rfl) ?_; (with_reducible refine (whirligigref02_Why.calls k _ _ l0 t203 _ ?side1 ?side2 A3.out).mono ?_); (case side1 => repeat (first | exact (Kd.C_below HR0.out HB.out) | (with_reducible refine Kd.C_alloc ?_ _) | (with_reducible refine Kd.C_drewN ?_ _) | (with_reducible refine Kd.C_drew ?_))); (case side2 => exact HC0.out); rintro e w18 ⟨rfl, hb⟩; refine ⟨_, rfl, ?_⟩; replace aa := Aside0.mk (blk_below (g := ab) (by (with_reducible repeat (first | refine blk_drewN ?_ _ | refine blk_drew ?_ | refine blk_alloc ?_ _)); exact aa.out) hb); replace HB := Aside0.mk (below_step (by repeat (first | (with_reducible first | exact HB.out | apply below_alloc | apply pw_below_drewN | apply below_drew1 | refine below_set ?_ ac.out) | exact HB.out)) hb); (try clear hb); (try clear af); (try clear hk); (try clear hi); have hcz19_0 : w18.cell? ⟨ab, 0, none⟩ = some (.int .u32 ad) := (blk_cell aa.out 0).trans rfl; have hcz19_1 : w18.cell? ⟨ab, 1, none⟩ = some (.int .i64 ae) := (blk_cell aa.out 1).trans rfl; have hfz19_0 := blk_frozen aa.out 0; have hfz19_1 := blk_frozen aa.out 1) | (go_at_call 19; (with_reducible refine (whirligigref01_May.calls k ad ae true _ A5.out).mono ?_); rintro e w20 ⟨rfl, hb⟩; replace aa := Aside0.mk (blk_below (g := ab) (by (with_reducible repeat (first | refine blk_drewN ?_ _ | refine blk_drew ?_ | refine blk_alloc ?_ _)); exact aa.out) hb); replace HB := Aside0.mk (below_step (by repeat (first | (with_reducible first | exact HB.out | apply below_alloc | apply pw_below_drewN | apply below_drew1 | refine below_set ?_ ac.out) | exact HB.out)) hb); (try clear hb); (try clear af); (try clear hk); (try clear hi); have hcz21_0 : w20.cell? ⟨ab, 0, none⟩ = some (.int .u32 ad) := (blk_cell aa.out 0).trans rfl; have hcz21_1 : w20.cell? ⟨ab, 1, none⟩ = some (.int .i64 ae) := (blk_cell aa.out 1).trans rfl; have hfz21_0 := blk_frozen aa.out 0; have hfz21_1 := blk_frozen aa.out 1) | ((with_reducible refine gate_callee (f := 22) rfl ?_); refine goesL_ (some 17) rfl rfl Try.func22 (by kernel_rfl) rfl #[.slice A0 l0.length c0, .agg #[.int .u32 ad, .int .i64 ae]] rfl (by (try simp only [List.map_toArray, List.map_cons, List.map_nil]); first | done | rfl) ?_; (with_reducible refine (whirligigref02_First.calls k _ _ l0 ad ae t205 _ ?side1 ?side2 A7.out).mono ?_); (case side1 => repeat (first | exact (Kd.C_below HR0.out HB.out) | (with_reducible refine Kd.C_alloc ?_ _) | (with_reducible refine Kd.C_drewN ?_ _) | (with_reducible refine Kd.C_drew ?_))); (case side2 => exact HC0.out); rintro e w22 ⟨rfl, hb⟩; refine ⟨_, rfl, ?_⟩; replace aa := Aside0.mk (blk_below (g := ab) (by (with_reducible repeat (first | refine blk_drewN ?_ _ | refine blk_drew ?_ | refine blk_alloc ?_ _)); exact aa.out) hb); replace HB := Aside0.mk (below_step (by repeat (first | (with_reducible first | exact HB.out | apply below_alloc | apply pw_below_drewN | apply below_drew1 | refine below_set ?_ ac.out) | exact HB.out)) hb); (try clear hb); (try clear af); (try clear hk); (try clear hi)))
    go_ret2
    exact ⟨by first | rfl | (simp [errW_none, errW_some] <;> rfl) | (simp [*, errW_none, errW_some] <;> rfl), by repeat (first | (with_reducible first | exact HB.out | apply below_alloc | apply pw_below_drewN | apply below_drew1 | refine below_set ?_ ac.out) | exact HB.out)⟩
  ·replace c6 := Bool.eq_false_iff.mpr c6
   subst c6
   have H1 : (some (false, (-1))) = some (r1, r2) := by rw [if_neg (show ¬ (false = true) by decide)] at H; exact H
   clear H
   have H := H1
   clear H1
   simp only [Option.some.injEq, Prod.mk.injEq] at H
   obtain ⟨rfl, rfl⟩ := H
   go_enter Try.func14, Try.ntmps14
   go_wp2_with (first | ((with_reducible refine gate_dst (N := 3) rfl ?_); refine box_event ?hg (N := 3) ?hd (cs := #[.int .u32 ad, .int .i64 ae]) (t := 24) ?hr ?_; (case hd => rfl); (case hg => rfl); (case hr => first | (go_simp; done) | (go_simp; rfl)); intro ab hg w23 hbox hb; have n0_ := Aside0.mk (below_step (by repeat (first | (with_reducible first | exact HB.out | apply below_alloc | apply pw_below_drewN | apply below_drew1) | exact HB.out)) hb); have n1_ := Aside0.mk (hbox); have n2_ := Aside0.mk ((by rw [hg]; exact (below_size (by repeat (first | (with_reducible first | exact HB.out | apply below_alloc | apply pw_below_drewN | apply below_drew1) | exact HB.out))) : w.heap.size ≤ ab)); have n3_ := Aside0.mk ((by rw [hg]; exact (below_size (by repeat (first | (with_reducible first | exact HB.out | apply below_alloc | apply pw_below_drewN | apply below_drew1) | exact HB.out))) : w.heap.size ≤ ab)); clear HB; have HB := n0_; have aa := n1_; have GW202 := n2_; have ac := n3_; clear n0_ n1_ n2_ n3_; clear hb hbox hg) | ((with_reducible refine gate_callee (f := 16) rfl ?_); refine goesL_ (some 8) rfl rfl Try.func16 (by kernel_rfl) rfl #[.slice A0 l0.length c0] rfl (by (try simp only [List.map_toArray, List.map_cons, List.map_nil]); first | done | rfl) ?_; (with_reducible refine (whirligigref02_Why.calls k _ _ l0 t203 _ ?side1 ?side2 A3.out).mono ?_); (case side1 => repeat (first | exact (Kd.C_below HR0.out HB.out) | (with_reducible refine Kd.C_alloc ?_ _) | (with_reducible refine Kd.C_drewN ?_ _) | (with_reducible refine Kd.C_drew ?_))); (case side2 => exact HC0.out); rintro e w24 ⟨rfl, hb⟩; refine ⟨_, rfl, ?_⟩; replace aa := Aside0.mk (blk_below (g := ab) (by (with_reducible repeat (first | refine blk_drewN ?_ _ | refine blk_drew ?_ | refine blk_alloc ?_ _)); exact aa.out) hb); replace HB := Aside0.mk (below_step (by repeat (first | (with_reducible first | exact HB.out | apply below_alloc | apply pw_below_drewN | apply below_drew1 | refine below_set ?_ ac.out) | exact HB.out)) hb); (try clear hb); (try clear af); (try clear hk); (try clear hi); have hcz25_0 : w24.cell? ⟨ab, 0, none⟩ = some (.int .u32 ad) := (blk_cell aa.out 0).trans rfl; have hcz25_1 : w24.cell? ⟨ab, 1, none⟩ = some (.int .i64 ae) := (blk_cell aa.out 1).trans rfl; have hfz25_0 := blk_frozen aa.out 0; have hfz25_1 := blk_frozen aa.out 1) | (go_at_call 19; (with_reducible refine (whirligigref01_May.calls k ad ae false _ A5.out).mono ?_); rintro e w26 ⟨rfl, hb⟩; replace aa := Aside0.mk (blk_below (g := ab) (by (with_reducible repeat (first | refine blk_drewN ?_ _ | refine blk_drew ?_ | refine blk_alloc ?_ _)); exact aa.out) hb); replace HB := Aside0.mk (below_step (by repeat (first | (with_reducible first | exact HB.out | apply below_alloc | apply pw_below_drewN | apply below_drew1 | refine below_set ?_ ac.out) | exact HB.out)) hb); (try clear hb); (try clear af); (try clear hk); (try clear hi)))
   go_ret2
   exact ⟨by first | rfl | (simp [errW_none, errW_some] <;> rfl) | (simp [*, errW_none, errW_some] <;> rfl), by repeat (first | (with_reducible first | exact HB.out | apply below_alloc | apply pw_below_drewN | apply below_drew1 | refine below_set ?_ ac.out) | exact HB.out)⟩
 ·rw [if_neg c4] at H
  have c4b0 : (t203 == 0) = false := beq_eq_false_iff_ne.mpr c4
  have c4b1 : (t203 != 0) = true := bne_iff_ne.mpr c4
  simp only [Option.some.injEq, Prod.mk.injEq] at H
  obtain ⟨rfl, rfl⟩ := H
  go_enter Try.func14, Try.ntmps14
  go_wp2_with (first | ((with_reducible refine gate_dst (N := 3) rfl ?_); refine box_event ?hg (N := 3) ?hd (cs := #[.int .u32 ad, .int .i64 ae]) (t := 24) ?hr ?_; (case hd => rfl); (case hg => rfl); (case hr => first | (go_simp; done) | (go_simp; rfl)); intro ab hg w27 hbox hb; have n0_ := Aside0.mk (below_step (by repeat (first | (with_reducible first | exact HB.out | apply below_alloc | apply pw_below_drewN | apply below_drew1) | exact HB.out)) hb); have n1_ := Aside0.mk (hbox); have n2_ := Aside0.mk ((by rw [hg]; exact (below_size (by repeat (first | (with_reducible first | exact HB.out | apply below_alloc | apply pw_below_drewN | apply below_drew1) | exact HB.out))) : w.heap.size ≤ ab)); have n3_ := Aside0.mk ((by rw [hg]; exact (below_size (by repeat (first | (with_reducible first | exact HB.out | apply below_alloc | apply pw_below_drewN | apply below_drew1) | exact HB.out))) : w.heap.size ≤ ab)); clear HB; have HB := n0_; have aa := n1_; have GW202 := n2_; have ac := n3_; clear n0_ n1_ n2_ n3_; clear hb hbox hg) | ((with_reducible refine gate_callee (f := 16) rfl ?_); refine goesL_ (some 8) rfl rfl Try.func16 (by kernel_rfl) rfl #[.slice A0 l0.length c0] rfl (by (try simp only [List.map_toArray, List.map_cons, List.map_nil]); first | done | rfl) ?_; (with_reducible refine (whirligigref02_Why.calls k _ _ l0 t203 _ ?side1 ?side2 A3.out).mono ?_); (case side1 => repeat (first | exact (Kd.C_below HR0.out HB.out) | (with_reducible refine Kd.C_alloc ?_ _) | (with_reducible refine Kd.C_drewN ?_ _) | (with_reducible refine Kd.C_drew ?_))); (case side2 => exact HC0.out); rintro e w28 ⟨rfl, hb⟩; refine ⟨_, rfl, ?_⟩; replace aa := Aside0.mk (blk_below (g := ab) (by (with_reducible repeat (first | refine blk_drewN ?_ _ | refine blk_drew ?_ | refine blk_alloc ?_ _)); exact aa.out) hb); replace HB := Aside0.mk (below_step (by repeat (first | (with_reducible first | exact HB.out | apply below_alloc | apply pw_below_drewN | apply below_drew1 | refine below_set ?_ ac.out) | exact HB.out)) hb); (try clear hb); (try clear af); (try clear hk); (try clear hi)))
  go_ret2
  exact ⟨by first | rfl | (simp [errW_none, errW_some] <;> rfl) | (simp [*, errW_none, errW_some] <;> rfl), by repeat (first | (with_reducible first | exact HB.out | apply below_alloc | apply pw_below_drewN | apply below_drew1 | refine below_set ?_ ac.out) | exact HB.out)⟩

end Go.Proofs.Ytndcjncamdhbfaa.P

/- Part of the proof of RowAttrOwn: what it asks of functions, words and plain facts (put together by this session's own program, wip/tools/shake.py). -/
import Derived.Test.YtnnlbofmlfafhaaZAttrOwn0
import Derived.Test.YtnnlbofmlfafhaaZAttrOwn1
import Derived.Test.YtnnlbofmlfafhaaZAttrOwn2
import Derived.Laws.CopyRow
import Derived.Laws.CopyOwn
import Derived.OwnWalk
import Derived.WalkSpells
import Derived.Sort.Grow
import Derived.Shelf.SlSortCmp.NoneTotal
import Derived.Ground.SlsfProg
import Derived.Test.YtnnlbofmlfafhaaProg
import Derived.Laws.BitsLemmas
import Derived.Laws.IdiomCopy
import Derived.Shelf.Spec.SlicesGrow
import Derived.Ground.Names8Prog
section
namespace Go.Proofs.Ytnnlbofmlfafhaa.P
open Go.RowKit Go.Proofs.YtnnlbofmlfafhaaW.PrintWords Go.Proofs.YtnnlbofmlfafhaaW.PrintLast Go.Proofs.YtnnlbofmlfafhaaW.PrintMore
attribute [local go_sem] max2_int min2_int max_two min_two max_three min_three max_four min_four   -- for this text's walks alone
set_option linter.unusedVariables false
set_option linter.unusedSimpArgs false

def attr_Same.f (k : Nat) (a0_0 : Int) (a0_1 : Int) (a0_2 : Int) (l0_3 : List Int) (l0_4 : List (S63)) (a0_5 : Int) (l0_6 : List Int) (a1_0 : Int) (a1_1 : Int) (a1_2 : Int) (l1_3 : List Int) (l1_4 : List (S63)) (a1_5 : Int) (l1_6 : List Int) : Option (Bool) := (attr_Compare.f k a0_0 a0_1 a0_2 l0_3 l0_4 a0_5 l0_6 a1_0 a1_1 a1_2 l1_3 l1_4 a1_5 l1_6).bind fun t314 => (some (t314 == 0))
set_option maxHeartbeats 8000000 in
set_option maxRecDepth 100000 in
theorem attr_Same.calls (k : Nat) (a0_0 : Int) (a0_1 : Int) (a0_2 : Int) (A0_3 : Option Addr) (c0_3 : Nat) (l0_3 : List Int) (A0_4 : Option Addr) (c0_4 : Nat) (l0_4 : List (S63)) (a0_5 : Int) (A0_6 : Option Addr) (c0_6 : Nat) (l0_6 : List Int) (a1_0 : Int) (a1_1 : Int) (a1_2 : Int) (A1_3 : Option Addr) (c1_3 : Nat) (l1_3 : List Int) (A1_4 : Option Addr) (c1_4 : Nat) (l1_4 : List (S63)) (a1_5 : Int) (A1_6 : Option Addr) (c1_6 : Nat) (l1_6 : List Int) (r : Bool) (w : World) (hr0_3 : Kd.C (Kd.int .i64) w A0_3 l0_3.length l0_3) (hc0_3 : l0_3.length ≤ c0_3) (hr0_4 : Kd.C k63 w A0_4 l0_4.length l0_4) (hc0_4 : l0_4.length ≤ c0_4) (hr0_6 : Kd.C (Kd.int .i64) w A0_6 l0_6.length l0_6) (hc0_6 : l0_6.length ≤ c0_6) (hr1_3 : Kd.C (Kd.int .i64) w A1_3 l1_3.length l1_3) (hc1_3 : l1_3.length ≤ c1_3) (hr1_4 : Kd.C k63 w A1_4 l1_4.length l1_4) (hc1_4 : l1_4.length ≤ c1_4) (hr1_6 : Kd.C (Kd.int .i64) w A1_6 l1_6.length l1_6) (hc1_6 : l1_6.length ≤ c1_6) (h : attr_Same.f k a0_0 a0_1 a0_2 l0_3 l0_4 a0_5 l0_6 a1_0 a1_1 a1_2 l1_3 l1_4 a1_5 l1_6 = some r) :
    Calls Try.prog 18 #[.agg #[.int .i64 a0_0, .int .i64 a0_1, .int .i64 a0_2, .slice A0_3 l0_3.length c0_3, .slice A0_4 l0_4.length c0_4, .int .i64 a0_5, .slice A0_6 l0_6.length c0_6], .agg #[.int .i64 a1_0, .int .i64 a1_1, .int .i64 a1_2, .slice A1_3 l1_3.length c1_3, .slice A1_4 l1_4.length c1_4, .int .i64 a1_5, .slice A1_6 l1_6.length c1_6]] w fun e w' => e = .returned (.bool r) ∧ Below w.heap.size w w' := by
  have hu30 := Try.underlying30
  have HR0_3 := Aside0.mk hr0_3
  have HC0_3 := Aside0.mk hc0_3
  clear hr0_3 hc0_3
  have HR0_4 := Aside0.mk hr0_4
  have HC0_4 := Aside0.mk hc0_4
  clear hr0_4 hc0_4
  have HR0_6 := Aside0.mk hr0_6
  have HC0_6 := Aside0.mk hc0_6
  clear hr0_6 hc0_6
  have HR1_3 := Aside0.mk hr1_3
  have HC1_3 := Aside0.mk hc1_3
  clear hr1_3 hc1_3
  have HR1_4 := Aside0.mk hr1_4
  have HC1_4 := Aside0.mk hc1_4
  clear hr1_4 hc1_4
  have HR1_6 := Aside0.mk hr1_6
  have HC1_6 := Aside0.mk hc1_6
  clear hr1_6 hc1_6
  have HB := Aside0.mk (Below.refl w.heap.size w)
  have H : ((attr_Compare.f k a0_0 a0_1 a0_2 l0_3 l0_4 a0_5 l0_6 a1_0 a1_1 a1_2 l1_3 l1_4 a1_5 l1_6).bind fun t314 => (some (t314 == 0))) = some r := h
  clear h
  replace H := Option.bind_eq_some_iff.mp H
  obtain ⟨t314, A30, H⟩ := H
  replace H : (some (t314 == 0)) = some r := H
  have A3 := Aside0.mk A30
  clear A30
  obtain rfl := Option.some.inj H
  go_enter Try.func18, Try.ntmps18
  go_wp2_with (first | ((with_reducible refine gate_dst (N := 2) rfl ?_); refine box_event ?hg (N := 2) ?hd (cs := #[.int .i64 a0_0, .int .i64 a0_1, .int .i64 a0_2, .slice A0_3 l0_3.length c0_3, .slice A0_4 l0_4.length c0_4, .int .i64 a0_5, .slice A0_6 l0_6.length c0_6]) (t := 30) ?hr ?_; (case hd => rfl); (case hg => rfl); (case hr => first | (go_simp; done) | (go_simp; rfl)); intro gb312 hg w4 hbox hb; have n0_ := Aside0.mk (below_step (by repeat (first | (with_reducible first | exact HB.out | apply below_alloc | apply pw_below_drewN | apply below_drew1) | exact HB.out)) hb); have n1_ := Aside0.mk (hbox); have n2_ := Aside0.mk ((by rw [hg]; exact (below_size (by repeat (first | (with_reducible first | exact HB.out | apply below_alloc | apply pw_below_drewN | apply below_drew1) | exact HB.out))) : w.heap.size ≤ gb312)); have n3_ := Aside0.mk ((by rw [hg]; exact (below_size (by repeat (first | (with_reducible first | exact HB.out | apply below_alloc | apply pw_below_drewN | apply below_drew1) | exact HB.out))) : w.heap.size ≤ gb312)); clear HB; have HB := n0_; have BK312 := n1_; have GW312 := n2_; have GE312 := n3_; clear n0_ n1_ n2_ n3_; clear hb hbox hg) | ((with_reducible refine gate_dst (N := 3) rfl ?_); refine box_event ?hg (N := 3) ?hd (cs := #[.int .i64 a1_0, .int .i64 a1_1, .int .i64 a1_2, .slice A1_3 l1_3.length c1_3, .slice A1_4 l1_4.length c1_4, .int .i64 a1_5, .slice A1_6 l1_6.length c1_6]) (t := 30) ?hr ?_; (case hd => rfl); (case hg => rfl); (case hr => first | (go_simp; done) | (go_simp; rfl)); intro gb313 hg w5 hbox hb; have n0_ := Aside0.mk (blk_below (g := gb312) (o := .cells #[.int .i64 a0_0, .int .i64 a0_1, .int .i64 a0_2, .slice A0_3 l0_3.length c0_3, .slice A0_4 l0_4.length c0_4, .int .i64 a0_5, .slice A0_6 l0_6.length c0_6] 30 (0, 0)) (by (with_reducible repeat (first | refine blk_drewN ?_ _ | refine blk_drew ?_ | refine blk_alloc ?_ _)); exact BK312.out) hb); have n1_ := Aside0.mk (below_step (by repeat (first | (with_reducible first | exact HB.out | apply below_alloc | apply pw_below_drewN | apply below_drew1 | refine below_set ?_ GE312.out) | exact HB.out)) hb); have n2_ := Aside0.mk (hbox); have n3_ := Aside0.mk ((by rw [hg]; exact (below_size (by repeat (first | (with_reducible first | exact HB.out | apply below_alloc | apply pw_below_drewN | apply below_drew1 | refine below_set ?_ GE312.out) | exact HB.out))) : w.heap.size ≤ gb313)); have n4_ := Aside0.mk ((by rw [hg]; exact (below_size (by repeat (first | (with_reducible first | exact HB.out | apply below_alloc | apply pw_below_drewN | apply below_drew1 | refine below_set ?_ GE312.out) | exact HB.out))) : w.heap.size ≤ gb313)); have n5_ := Aside0.mk ((by rw [hg]; exact Nat.ne_of_lt (blk_lt (g := gb312) (o := .cells #[.int .i64 a0_0, .int .i64 a0_1, .int .i64 a0_2, .slice A0_3 l0_3.length c0_3, .slice A0_4 l0_4.length c0_4, .int .i64 a0_5, .slice A0_6 l0_6.length c0_6] 30 (0, 0)) (by (with_reducible repeat (first | refine blk_drewN ?_ _ | refine blk_drew ?_ | refine blk_alloc ?_ _)); exact BK312.out)) : gb312 ≠ gb313)); have n6_ := Aside0.mk ((by rw [hg]; exact Nat.ne_of_gt (blk_lt (g := gb312) (o := .cells #[.int .i64 a0_0, .int .i64 a0_1, .int .i64 a0_2, .slice A0_3 l0_3.length c0_3, .slice A0_4 l0_4.length c0_4, .int .i64 a0_5, .slice A0_6 l0_6.length c0_6] 30 (0, 0)) (by (with_reducible repeat (first | refine blk_drewN ?_ _ | refine blk_drew ?_ | refine blk_alloc ?_ _)); exact BK312.out)) : gb313 ≠ gb312)); clear BK312; clear HB; have BK312 := n0_; have HB := n1_; have BK313 := n2_; have GW313 := n3_; have GE313 := n4_; have NB312_313 := n5_; have NB313_312 := n6_; clear n0_ n1_ n2_ n3_ n4_ n5_ n6_; clear hb hbox hg; have hnb6 := NB312_313.out; have hnc6 := NB313_312.out; have hcz7_0 : w5.cell? ⟨gb312, 0, none⟩ = some (.int .i64 a0_0) := (blk_cell BK312.out 0).trans rfl; have hcz7_1 : w5.cell? ⟨gb312, 1, none⟩ = some (.int .i64 a0_1) := (blk_cell BK312.out 1).trans rfl; have hcz7_2 : w5.cell? ⟨gb312, 2, none⟩ = some (.int .i64 a0_2) := (blk_cell BK312.out 2).trans rfl; have hcz7_3 : w5.cell? ⟨gb312, 3, none⟩ = some (.slice A0_3 l0_3.length c0_3) := (blk_cell BK312.out 3).trans rfl; have hcz7_4 : w5.cell? ⟨gb312, 4, none⟩ = some (.slice A0_4 l0_4.length c0_4) := (blk_cell BK312.out 4).trans rfl; have hcz7_5 : w5.cell? ⟨gb312, 5, none⟩ = some (.int .i64 a0_5) := (blk_cell BK312.out 5).trans rfl; have hcz7_6 : w5.cell? ⟨gb312, 6, none⟩ = some (.slice A0_6 l0_6.length c0_6) := (blk_cell BK312.out 6).trans rfl; have hfz7_0 := blk_frozen BK312.out 0; have hfz7_1 := blk_frozen BK312.out 1; have hfz7_2 := blk_frozen BK312.out 2; have hfz7_3 := blk_frozen BK312.out 3; have hfz7_4 := blk_frozen BK312.out 4; have hfz7_5 := blk_frozen BK312.out 5; have hfz7_6 := blk_frozen BK312.out 6; have hcz8_0 : w5.cell? ⟨gb313, 0, none⟩ = some (.int .i64 a1_0) := (blk_cell BK313.out 0).trans rfl; have hcz8_1 : w5.cell? ⟨gb313, 1, none⟩ = some (.int .i64 a1_1) := (blk_cell BK313.out 1).trans rfl; have hcz8_2 : w5.cell? ⟨gb313, 2, none⟩ = some (.int .i64 a1_2) := (blk_cell BK313.out 2).trans rfl; have hcz8_3 : w5.cell? ⟨gb313, 3, none⟩ = some (.slice A1_3 l1_3.length c1_3) := (blk_cell BK313.out 3).trans rfl; have hcz8_4 : w5.cell? ⟨gb313, 4, none⟩ = some (.slice A1_4 l1_4.length c1_4) := (blk_cell BK313.out 4).trans rfl; have hcz8_5 : w5.cell? ⟨gb313, 5, none⟩ = some (.int .i64 a1_5) := (blk_cell BK313.out 5).trans rfl; have hcz8_6 : w5.cell? ⟨gb313, 6, none⟩ = some (.slice A1_6 l1_6.length c1_6) := (blk_cell BK313.out 6).trans rfl; have hfz8_0 := blk_frozen BK313.out 0; have hfz8_1 := blk_frozen BK313.out 1; have hfz8_2 := blk_frozen BK313.out 2; have hfz8_3 := blk_frozen BK313.out 3; have hfz8_4 := blk_frozen BK313.out 4; have hfz8_5 := blk_frozen BK313.out 5; have hfz8_6 := blk_frozen BK313.out 6) | ((with_reducible refine gate_callee (f := 12) rfl ?_); refine goesL_ (some 7) rfl rfl Try.func12 (by kernel_rfl) rfl #[.agg #[.int .i64 a0_0, .int .i64 a0_1, .int .i64 a0_2, .slice A0_3 l0_3.length c0_3, .slice A0_4 l0_4.length c0_4, .int .i64 a0_5, .slice A0_6 l0_6.length c0_6], .agg #[.int .i64 a1_0, .int .i64 a1_1, .int .i64 a1_2, .slice A1_3 l1_3.length c1_3, .slice A1_4 l1_4.length c1_4, .int .i64 a1_5, .slice A1_6 l1_6.length c1_6]] rfl (by (try simp only [List.map_toArray, List.map_cons, List.map_nil]); first | done | rfl | (simp only [List.length_drop, List.length_take]; rfl)) ?_; (with_reducible refine (attr_Compare.calls k a0_0 a0_1 a0_2 _ _ l0_3 _ _ l0_4 a0_5 _ _ l0_6 a1_0 a1_1 a1_2 _ _ l1_3 _ _ l1_4 a1_5 _ _ l1_6 t314 _ ?side1 ?side2 ?side3 ?side4 ?side5 ?side6 ?side7 ?side8 ?side9 ?side10 ?side11 ?side12 A3.out).mono ?_); (case side1 => repeat (first | exact (Kd.C_below HR0_3.out HB.out) | (with_reducible refine Kd.C_alloc ?_ _) | (with_reducible refine Kd.C_drewN ?_ _) | (with_reducible refine Kd.C_drew ?_))); (case side2 => exact HC0_3.out); (case side3 => repeat (first | exact (Kd.C_below HR0_4.out HB.out) | (with_reducible refine Kd.C_alloc ?_ _) | (with_reducible refine Kd.C_drewN ?_ _) | (with_reducible refine Kd.C_drew ?_))); (case side4 => exact HC0_4.out); (case side5 => repeat (first | exact (Kd.C_below HR0_6.out HB.out) | (with_reducible refine Kd.C_alloc ?_ _) | (with_reducible refine Kd.C_drewN ?_ _) | (with_reducible refine Kd.C_drew ?_))); (case side6 => exact HC0_6.out); (case side7 => repeat (first | exact (Kd.C_below HR1_3.out HB.out) | (with_reducible refine Kd.C_alloc ?_ _) | (with_reducible refine Kd.C_drewN ?_ _) | (with_reducible refine Kd.C_drew ?_))); (case side8 => exact HC1_3.out); (case side9 => repeat (first | exact (Kd.C_below HR1_4.out HB.out) | (with_reducible refine Kd.C_alloc ?_ _) | (with_reducible refine Kd.C_drewN ?_ _) | (with_reducible refine Kd.C_drew ?_))); (case side10 => exact HC1_4.out); (case side11 => repeat (first | exact (Kd.C_below HR1_6.out HB.out) | (with_reducible refine Kd.C_alloc ?_ _) | (with_reducible refine Kd.C_drewN ?_ _) | (with_reducible refine Kd.C_drew ?_))); (case side12 => exact HC1_6.out); rintro e w9 ⟨rfl, hb⟩; refine ⟨_, rfl, ?_⟩; have n0_ := Aside0.mk (blk_below (g := gb312) (o := .cells #[.int .i64 a0_0, .int .i64 a0_1, .int .i64 a0_2, .slice A0_3 l0_3.length c0_3, .slice A0_4 l0_4.length c0_4, .int .i64 a0_5, .slice A0_6 l0_6.length c0_6] 30 (0, 0)) (by (with_reducible repeat (first | refine blk_drewN ?_ _ | refine blk_drew ?_ | refine blk_alloc ?_ _)); exact BK312.out) hb); have n1_ := Aside0.mk (blk_below (g := gb313) (o := .cells #[.int .i64 a1_0, .int .i64 a1_1, .int .i64 a1_2, .slice A1_3 l1_3.length c1_3, .slice A1_4 l1_4.length c1_4, .int .i64 a1_5, .slice A1_6 l1_6.length c1_6] 30 (0, 0)) (by (with_reducible repeat (first | refine blk_drewN ?_ _ | refine blk_drew ?_ | refine blk_alloc ?_ _)); exact BK313.out) hb); have n2_ := Aside0.mk (below_step (by repeat (first | (with_reducible first | exact HB.out | apply below_alloc | apply pw_below_drewN | apply below_drew1 | refine below_set ?_ GE312.out | refine below_set ?_ GE313.out) | exact HB.out)) hb); clear BK312; clear BK313; clear HB; have BK312 := n0_; have BK313 := n1_; have HB := n2_; clear n0_ n1_ n2_; (try clear hb); (try clear hb2); (try clear hk); (try clear hi)))
  go_ret
  exact ⟨by first | rfl | (simp [errW_none, errW_some] <;> rfl) | (simp [*, errW_none, errW_some] <;> rfl), by repeat (first | (with_reducible first | exact HB.out | apply below_alloc | apply pw_below_drewN | apply below_drew1 | refine below_set ?_ GE312.out | refine below_set ?_ GE313.out) | exact HB.out)⟩

end Go.Proofs.Ytnnlbofmlfafhaa.P

end
section
namespace Go.Proofs.Ytnnlbofmlfafhaa.P
open Go.RowKit Go.Proofs.YtnnlbofmlfafhaaW.PrintWords Go.Proofs.YtnnlbofmlfafhaaW.PrintLast Go.Proofs.YtnnlbofmlfafhaaW.PrintMore
attribute [local go_sem] max2_int min2_int max_two min_two max_three min_three max_four min_four   -- for this text's walks alone
set_option linter.unusedVariables false
set_option linter.unusedSimpArgs false

def whirligigref09_FewSet.f (a0_0 : Int) (a0_1 : Int) (a0_2 : Int) (l0_3 : List (S63)) (l0_4 : List (S63)) (a0_5 : Bool) (l0_6 : List Int) : Option (Bool) := if (l0_3.length : Int) ≤ 100 then (if (l0_4.length : Int) ≤ 100 then (some (decide ((l0_6.length : Int) ≤ 100))) else (some false)) else (some false)
set_option maxHeartbeats 8000000 in
set_option maxRecDepth 100000 in
theorem whirligigref09_FewSet.calls (a0_0 : Int) (a0_1 : Int) (a0_2 : Int) (A0_3 : Option Addr) (c0_3 : Nat) (l0_3 : List (S63)) (A0_4 : Option Addr) (c0_4 : Nat) (l0_4 : List (S63)) (a0_5 : Bool) (A0_6 : Option Addr) (c0_6 : Nat) (l0_6 : List Int) (r : Bool) (w : World) (hr0_3 : Kd.C k63 w A0_3 l0_3.length l0_3) (hc0_3 : l0_3.length ≤ c0_3) (hr0_4 : Kd.C k63 w A0_4 l0_4.length l0_4) (hc0_4 : l0_4.length ≤ c0_4) (hr0_6 : Kd.C (Kd.int .i64) w A0_6 l0_6.length l0_6) (hc0_6 : l0_6.length ≤ c0_6) (h : whirligigref09_FewSet.f a0_0 a0_1 a0_2 l0_3 l0_4 a0_5 l0_6 = some r) :
    Calls Try.prog 20 #[.agg #[.int .i64 a0_0, .int .i64 a0_1, .int .i64 a0_2, .slice A0_3 l0_3.length c0_3, .slice A0_4 l0_4.length c0_4, .bool a0_5, .slice A0_6 l0_6.length c0_6]] w fun e w' => e = .returned (.bool r) ∧ Below w.heap.size w w' := by
  have hu37 := Try.underlying37
  have HR0_3 := Aside0.mk hr0_3
  have HC0_3 := Aside0.mk hc0_3
  clear hr0_3 hc0_3
  have HR0_4 := Aside0.mk hr0_4
  have HC0_4 := Aside0.mk hc0_4
  clear hr0_4 hc0_4
  have HR0_6 := Aside0.mk hr0_6
  have HC0_6 := Aside0.mk hc0_6
  clear hr0_6 hc0_6
  have HB := Aside0.mk (Below.refl w.heap.size w)
  have H : (if (l0_3.length : Int) ≤ 100 then (if (l0_4.length : Int) ≤ 100 then (some (decide ((l0_6.length : Int) ≤ 100))) else (some false)) else (some false)) = some r := h
  clear h
  by_cases c2 : (l0_3.length : Int) ≤ 100
  · rw [if_pos c2] at H
    have c2b0 : decide ((l0_3.length : Int) ≤ 100) = true := decide_eq_true c2
    have c2b1 : decide (l0_3.length ≤ 100) = true := decide_eq_true (by omega)
    clear c2
    by_cases c3 : (l0_4.length : Int) ≤ 100
    · rw [if_pos c3] at H
      have c3b0 : decide ((l0_4.length : Int) ≤ 100) = true := decide_eq_true c3
      have c3b1 : decide (l0_4.length ≤ 100) = true := decide_eq_true (by omega)
      clear c3
      obtain rfl := Option.some.inj H
      go_enter Try.func20, Try.ntmps20
      go_wp2_with (first | ((with_reducible refine gate_dst (N := 1) rfl ?_); (try (refine gate_guard (by rfl) ?_; dsimp only)); refine box_event ?hg (N := 1) ?hd (cs := #[.int .i64 a0_0, .int .i64 a0_1, .int .i64 a0_2, .slice A0_3 l0_3.length c0_3, .slice A0_4 l0_4.length c0_4, .bool a0_5, .slice A0_6 l0_6.length c0_6]) (t := 37) ?hr ?_; (case hd => rfl); (case hg => rfl); (case hr => first | (go_simp; done) | (go_simp; rfl)); intro gb336 hg w4 hbox hb; have n0_ := Aside0.mk (below_step (by repeat (first | (with_reducible first | exact HB.out | apply below_alloc | apply pw_below_drewN | apply below_drew1) | exact HB.out)) hb); have n1_ := Aside0.mk (hbox); have n2_ := Aside0.mk ((by rw [hg]; exact (below_size (by repeat (first | (with_reducible first | exact HB.out | apply below_alloc | apply pw_below_drewN | apply below_drew1) | exact HB.out))) : w.heap.size ≤ gb336)); have n3_ := Aside0.mk ((by rw [hg]; exact (below_size (by repeat (first | (with_reducible first | exact HB.out | apply below_alloc | apply pw_below_drewN | apply below_drew1) | exact HB.out))) : w.heap.size ≤ gb336)); clear HB; have HB := n0_; have BK336 := n1_; have GW336 := n2_; have GE336 := n3_; clear n0_ n1_ n2_ n3_; clear hb hbox hg; have hcz5_0 : w4.cell? ⟨gb336, 0, none⟩ = some (.int .i64 a0_0) := (blk_cell BK336.out 0).trans rfl; have hcz5_1 : w4.cell? ⟨gb336, 1, none⟩ = some (.int .i64 a0_1) := (blk_cell BK336.out 1).trans rfl; have hcz5_2 : w4.cell? ⟨gb336, 2, none⟩ = some (.int .i64 a0_2) := (blk_cell BK336.out 2).trans rfl; have hcz5_3 : w4.cell? ⟨gb336, 3, none⟩ = some (.slice A0_3 l0_3.length c0_3) := (blk_cell BK336.out 3).trans rfl; have hcz5_4 : w4.cell? ⟨gb336, 4, none⟩ = some (.slice A0_4 l0_4.length c0_4) := (blk_cell BK336.out 4).trans rfl; have hcz5_5 : w4.cell? ⟨gb336, 5, none⟩ = some (.bool a0_5) := (blk_cell BK336.out 5).trans rfl; have hcz5_6 : w4.cell? ⟨gb336, 6, none⟩ = some (.slice A0_6 l0_6.length c0_6) := (blk_cell BK336.out 6).trans rfl; have hfz5_0 := blk_frozen BK336.out 0; have hfz5_1 := blk_frozen BK336.out 1; have hfz5_2 := blk_frozen BK336.out 2; have hfz5_3 := blk_frozen BK336.out 3; have hfz5_4 := blk_frozen BK336.out 4; have hfz5_5 := blk_frozen BK336.out 5; have hfz5_6 := blk_frozen BK336.out 6))
      go_ret
      exact ⟨by first | rfl | (simp [errW_none, errW_some] <;> rfl) | (simp [*, errW_none, errW_some] <;> rfl), by repeat (first | (with_reducible first | exact HB.out | apply below_alloc | apply pw_below_drewN | apply below_drew1 | refine below_set ?_ GE336.out) | exact HB.out)⟩
    · rw [if_neg c3] at H
      have c3b0 : decide ((l0_4.length : Int) ≤ 100) = false := decide_eq_false c3
      have c3b1 : decide (l0_4.length ≤ 100) = false := decide_eq_false (by omega)
      clear c3
      obtain rfl := Option.some.inj H
      go_enter Try.func20, Try.ntmps20
      go_wp2_with (first | ((with_reducible refine gate_dst (N := 1) rfl ?_); (try (refine gate_guard (by rfl) ?_; dsimp only)); refine box_event ?hg (N := 1) ?hd (cs := #[.int .i64 a0_0, .int .i64 a0_1, .int .i64 a0_2, .slice A0_3 l0_3.length c0_3, .slice A0_4 l0_4.length c0_4, .bool a0_5, .slice A0_6 l0_6.length c0_6]) (t := 37) ?hr ?_; (case hd => rfl); (case hg => rfl); (case hr => first | (go_simp; done) | (go_simp; rfl)); intro gb336 hg w6 hbox hb; have n0_ := Aside0.mk (below_step (by repeat (first | (with_reducible first | exact HB.out | apply below_alloc | apply pw_below_drewN | apply below_drew1) | exact HB.out)) hb); have n1_ := Aside0.mk (hbox); have n2_ := Aside0.mk ((by rw [hg]; exact (below_size (by repeat (first | (with_reducible first | exact HB.out | apply below_alloc | apply pw_below_drewN | apply below_drew1) | exact HB.out))) : w.heap.size ≤ gb336)); have n3_ := Aside0.mk ((by rw [hg]; exact (below_size (by repeat (first | (with_reducible first | exact HB.out | apply below_alloc | apply pw_below_drewN | apply below_drew1) | exact HB.out))) : w.heap.size ≤ gb336)); clear HB; have HB := n0_; have BK336 := n1_; have GW336 := n2_; have GE336 := n3_; clear n0_ n1_ n2_ n3_; clear hb hbox hg; have hcz7_0 : w6.cell? ⟨gb336, 0, none⟩ = some (.int .i64 a0_0) := (blk_cell BK336.out 0).trans rfl; have hcz7_1 : w6.cell? ⟨gb336, 1, none⟩ = some (.int .i64 a0_1) := (blk_cell BK336.out 1).trans rfl; have hcz7_2 : w6.cell? ⟨gb336, 2, none⟩ = some (.int .i64 a0_2) := (blk_cell BK336.out 2).trans rfl; have hcz7_3 : w6.cell? ⟨gb336, 3, none⟩ = some (.slice A0_3 l0_3.length c0_3) := (blk_cell BK336.out 3).trans rfl; have hcz7_4 : w6.cell? ⟨gb336, 4, none⟩ = some (.slice A0_4 l0_4.length c0_4) := (blk_cell BK336.out 4).trans rfl; have hcz7_5 : w6.cell? ⟨gb336, 5, none⟩ = some (.bool a0_5) := (blk_cell BK336.out 5).trans rfl; have hcz7_6 : w6.cell? ⟨gb336, 6, none⟩ = some (.slice A0_6 l0_6.length c0_6) := (blk_cell BK336.out 6).trans rfl; have hfz7_0 := blk_frozen BK336.out 0; have hfz7_1 := blk_frozen BK336.out 1; have hfz7_2 := blk_frozen BK336.out 2; have hfz7_3 := blk_frozen BK336.out 3; have hfz7_4 := blk_frozen BK336.out 4; have hfz7_5 := blk_frozen BK336.out 5; have hfz7_6 := blk_frozen BK336.out 6))
      go_ret
      exact ⟨by first | rfl | (simp [errW_none, errW_some] <;> rfl) | (simp [*, errW_none, errW_some] <;> rfl), by repeat (first | (with_reducible first | exact HB.out | apply below_alloc | apply pw_below_drewN | apply below_drew1 | refine below_set ?_ GE336.out) | exact HB.out)⟩
  · rw [if_neg c2] at H
    have c2b0 : decide ((l0_3.length : Int) ≤ 100) = false := decide_eq_false c2
    have c2b1 : decide (l0_3.length ≤ 100) = false := decide_eq_false (by omega)
    clear c2
    obtain rfl := Option.some.inj H
    go_enter Try.func20, Try.ntmps20
    go_wp2_with (first | ((with_reducible refine gate_dst (N := 1) rfl ?_); (try (refine gate_guard (by rfl) ?_; dsimp only)); refine box_event ?hg (N := 1) ?hd (cs := #[.int .i64 a0_0, .int .i64 a0_1, .int .i64 a0_2, .slice A0_3 l0_3.length c0_3, .slice A0_4 l0_4.length c0_4, .bool a0_5, .slice A0_6 l0_6.length c0_6]) (t := 37) ?hr ?_; (case hd => rfl); (case hg => rfl); (case hr => first | (go_simp; done) | (go_simp; rfl)); intro gb336 hg w8 hbox hb; have n0_ := Aside0.mk (below_step (by repeat (first | (with_reducible first | exact HB.out | apply below_alloc | apply pw_below_drewN | apply below_drew1) | exact HB.out)) hb); have n1_ := Aside0.mk (hbox); have n2_ := Aside0.mk ((by rw [hg]; exact (below_size (by repeat (first | (with_reducible first | exact HB.out | apply below_alloc | apply pw_below_drewN | apply below_drew1) | exact HB.out))) : w.heap.size ≤ gb336)); have n3_ := Aside0.mk ((by rw [hg]; exact (below_size (by repeat (first | (with_reducible first | exact HB.out | apply below_alloc | apply pw_below_drewN | apply below_drew1) | exact HB.out))) : w.heap.size ≤ gb336)); clear HB; have HB := n0_; have BK336 := n1_; have GW336 := n2_; have GE336 := n3_; clear n0_ n1_ n2_ n3_; clear hb hbox hg; have hcz9_0 : w8.cell? ⟨gb336, 0, none⟩ = some (.int .i64 a0_0) := (blk_cell BK336.out 0).trans rfl; have hcz9_1 : w8.cell? ⟨gb336, 1, none⟩ = some (.int .i64 a0_1) := (blk_cell BK336.out 1).trans rfl; have hcz9_2 : w8.cell? ⟨gb336, 2, none⟩ = some (.int .i64 a0_2) := (blk_cell BK336.out 2).trans rfl; have hcz9_3 : w8.cell? ⟨gb336, 3, none⟩ = some (.slice A0_3 l0_3.length c0_3) := (blk_cell BK336.out 3).trans rfl; have hcz9_4 : w8.cell? ⟨gb336, 4, none⟩ = some (.slice A0_4 l0_4.length c0_4) := (blk_cell BK336.out 4).trans rfl; have hcz9_5 : w8.cell? ⟨gb336, 5, none⟩ = some (.bool a0_5) := (blk_cell BK336.out 5).trans rfl; have hcz9_6 : w8.cell? ⟨gb336, 6, none⟩ = some (.slice A0_6 l0_6.length c0_6) := (blk_cell BK336.out 6).trans rfl; have hfz9_0 := blk_frozen BK336.out 0; have hfz9_1 := blk_frozen BK336.out 1; have hfz9_2 := blk_frozen BK336.out 2; have hfz9_3 := blk_frozen BK336.out 3; have hfz9_4 := blk_frozen BK336.out 4; have hfz9_5 := blk_frozen BK336.out 5; have hfz9_6 := blk_frozen BK336.out 6))
    go_ret
    exact ⟨by first | rfl | (simp [errW_none, errW_some] <;> rfl) | (simp [*, errW_none, errW_some] <;> rfl), by repeat (first | (with_reducible first | exact HB.out | apply below_alloc | apply pw_below_drewN | apply below_drew1 | refine below_set ?_ GE336.out) | exact HB.out)⟩

end Go.Proofs.Ytnnlbofmlfafhaa.P

end
section
namespace Go
open Go.RowKit
theorem run_copy_cellsG {P : Program} (w : World) (dT sT ty elem : TypeId) (g o dLen dCap : Nat) (a : Addr) (sLen sCap : Nat) (cur : Array Value) (t : TypeId) (cs : List Value) (sz : Nat)
    (hu : P.underlying dT = some (.slice elem)) (hs : (P.info? elem).map (·.size) = some sz)
    (hg : w.heap[g]? = some (.cells cur t (0, 0))) (hn : cs.length = Nat.min sLen dLen * sz)
    (hsrc : ∀ j v, cs[j]? = some v → w.cell? (a.add j) = some v) (hfit : o + cs.length ≤ cur.size) (h1 : ∀ v ∈ cs, v.oneCell' = true) :
    (Builtin.copy_ #[dT, sT] ty #[.slice (some ⟨g, o, none⟩) dLen dCap, .slice (some a) sLen sCap]).run P w =
      .ok (goInt (Nat.min sLen dLen)) (w.setRow g (cur.toList.take o ++ cs ++ cur.toList.drop (o + cs.length)).toArray) := by
  have hl := run_loadCells_list (P := P) w a cs hsrc
  have hst := run_storeCells_at P g o t cs 0 cur w hg (by simpa using hfit) h1
  cases hq : P.info? elem with
  | none => simp [hq] at hs
  | some i =>
    have hi : i.size = sz := by simpa [hq] using hs
    simp [Builtin.copy_, run_underlying hu, Builtin.lenOf, Builtin.firstCells, sizeOf, typeInfo, hq, hi, ← hn, hl, hst]
theorem wpList_copy_cellsG {P : Program} {w : World} {ops : Array Oper} {rest : List Oper} {o : Oper} {a : Act} {Q : Exit → Act → World → Prop} (hgd : o.guard = none) (d s : Operand) (dT sT : TypeId)
    (ho : o.op = .call { callee := .builtin .copy, args := #[d, s], argTypes := #[dT, sT] }) (elem : TypeId) (hu : P.underlying dT = some (.slice elem)) (sz : Nat) (hsz : (P.info? elem).map (·.size) = some sz)
    (g off dLen dCap : Nat) (ad : Addr) (sLen sCap : Nat) (hd : a.eval d = .slice (some ⟨g, off, none⟩) dLen dCap) (hs : a.eval s = .slice (some ad) sLen sCap)
    (cur : Array Value) (t : TypeId) (hg : w.heap[g]? = some (.cells cur t (0, 0))) (cs : List Value) (hn : cs.length = Nat.min sLen dLen * sz)
    (hsrc : ∀ j v, cs[j]? = some v → w.cell? (ad.add j) = some v) (hfit : off + cs.length ≤ cur.size) (h1 : ∀ v ∈ cs, v.oneCell' = true)
    (h : ∀ w', w' = w.setRow g (cur.toList.take off ++ cs ++ cur.toList.drop (off + cs.length)).toArray → wpList P ops Q rest (a.put o.dst (goInt (Nat.min sLen dLen))) w') : wpList P ops Q (o :: rest) a w := by
  refine wpList_plain hgd fun K hK => ?_
  have hrun := run_copy_cellsG (P := P) w dT sT o.type elem g off dLen dCap ad sLen sCap cur t cs sz hu hsz hg hn hsrc hfit h1
  unfold Oper.wp
  simp [execOp, ho, resolve, invoke, builtin, hd, hs, hrun, Result.andThen]
  exact hK _ _ (h _ (by simp))
end Go

end
section
namespace Go.Proofs.Ytnnlbofmlfafhaa.P
open Go.RowKit Go.Proofs.YtnnlbofmlfafhaaW.PrintWords Go.Proofs.YtnnlbofmlfafhaaW.PrintLast Go.Proofs.YtnnlbofmlfafhaaW.PrintMore
attribute [local go_sem] max2_int min2_int max_two min_two max_three min_three max_four min_four   -- for this text's walks alone
set_option linter.unusedVariables false
set_option linter.unusedSimpArgs false

attribute [local go_sem high] eqA63
def attr_cloned_int.f (l0 : List Int) : Option (List Int) := if l0.length * 8 ≤ 140737488355328 then some l0 else none
theorem attr_cloned_int.info : (Try.prog.info? 3).map (fun i => (i.zero, i.size, i.bytes)) = some (some (.int .i64 0), 1, 8) := by kernel_rfl
set_option maxHeartbeats 1000000 in
set_option maxRecDepth 100000 in
theorem attr_cloned_int.calls (A0 : Option Addr) (c0 : Nat) (l0 : List Int) (r : List Int) (w : World) (hr0 : Kd.C (Kd.int .i64) w A0 l0.length l0) (hc0 : l0.length ≤ c0) (h : attr_cloned_int.f l0 = some r) :
    Calls Try.prog 52 #[.slice A0 l0.length c0] w fun e w' => ∃ v0_ : Value, e = .returned v0_ ∧ Kd.R (Kd.int .i64) 3 w' w.heap.size (fun _ => True) v0_ r ∧ Below w.heap.size w w' := by
  unfold attr_cloned_int.f at h
  split at h
  · rename_i hb
    obtain rfl := Option.some.inj h
    have HR := mkHid hr0
    obtain ⟨i0, hi, hz0, hz1, hz2⟩ := info_parts attr_cloned_int.info
    by_cases h0 : l0 = []
    · subst h0
      clear h hr0 hi hz0 hz1 hz2
      go_enter Try.func52, Try.ntmps52
      go_wp2_with fail
      go_ret
      exact ⟨_, rfl, Kd.R_nil _ _ _ _ _, Below.refl _ _⟩
    · have hpos : 0 < l0.length := List.length_pos_iff.2 h0
      obtain ⟨ad, hA, _⟩ := hr0.2.2 hpos
      subst hA
      obtain ⟨inner, hrep, hcell⟩ := ReadsRow.inner_ hr0
      have hone := Reps.one_ hrep (by decide)
      have q1 : ((l0.length : Int) == 0) = false := by rw [beq_eq_false_iff_ne]; omega
      have q2 : (l0.length == 0) = false := by rw [beq_eq_false_iff_ne]; omega
      have HLEN := mkHid hrep.1
      have HRep := mkHid hrep
      have HCell := mkHid hcell
      have HOne := mkHid hone
      have HPOS := mkHid hpos
      have hszm : (Try.prog.info? 3).map (·.size) = some 1 := by rw [hi]; exact congrArg some hz1
      have HSZ := mkHid hszm
      have HI := mkHid hi
      have HZ0 := mkHid hz0
      have HZ1 := mkHid hz1
      have hb2 : i0.bytes * l0.length ≤ 281474976710656 := by rw [hz2, Nat.mul_comm]; omega
      have hm3 : l0.length ≤ maxLen := by unfold maxLen; omega
      clear h hr0 hrep hcell hone h0 hpos hi hz0 hz1 hz2 hszm
      have hown_cells : ∀ (W : World), W.ownsRow w.heap.size 3 1 (.slice (some ⟨w.heap.size, 0, none⟩) l0.length l0.length) l0.length (madeCells ((.int .i64 0) : Value).cells (l0.length * 1)).toList → ∃ cur : Array Value, W.heap[w.heap.size]? = some (.cells cur 3 (0, 0)) ∧ cur.size = l0.length * 1 := by
        rintro W ⟨_, hr⟩
        rcases hr with ⟨he, _⟩ | ⟨g, cap, cur, he, _, hh, _, _, hs, _⟩
        · cases he
        · injection he with e1 _ e3
          injection e1 with e1
          injection e1 with e1
          subst e1; subst e3
          exact ⟨cur, hh, hs⟩
      have HOC := mkHid hown_cells
      have hsame : ∀ (W : World), w.grownBy W none → ∀ (j : Nat) u, inner[j]? = some u → W.cell? (ad.add j) = some u := fun W hg j u hu => ((Below.refl w.heap.size w).grown hg (Nat.le_refl _) (fun k hk => by cases hk)).cell (World.block_lt_of_cell? _ _ (HCell.out j u hu)) |>.trans (HCell.out j u hu)
      have HSAME := mkHid hsame
      have hbel : ∀ (W : World), w.grownBy W none → Below w.heap.size w W := fun W hg => (Below.refl _ _).grown hg (Nat.le_refl _) (fun k hk => by cases hk)
      have HBEL := mkHid hbel
      have hmin : inner.length = Nat.min l0.length l0.length * 1 := by rw [HLEN.out, show Nat.min l0.length l0.length = l0.length from Nat.min_self _]; rfl
      have HMIN := mkHid hmin
      clear hown_cells hsame hbel hmin
      go_enter Try.func52, Try.ntmps52
      go_wp2_with (first | (refine wpList_make_full _ rfl _ _ 27 rfl w.heap.size 3 i0 _ 1 Try.underlying27 HI.out HZ0.out HZ1.out .i64 .i64 _ _ l0.length rfl rfl rfl rfl hb2 hm3 (Nat.le_refl _) ?_; intro w1 hown hgr; obtain ⟨cur, hcur, hcs⟩ := HOC.out w1 hown; have HCUR := mkHid hcur; have HCS := mkHid hcs; have HGR := mkHid hgr; clear hcur hcs hown hgr) | (refine wpList_copy_cellsG (o := ⟨some 12, _, _, _, _, _⟩) rfl (.tmp 10) (.tmp 11) 27 27 rfl 3 Try.underlying27 1 HSZ.out w.heap.size 0 l0.length l0.length ad l0.length c0 rfl rfl cur 3 HCUR.out inner HMIN.out (HSAME.out _ HGR.out) ?h3 HOne.out ?_; (case h3 => rw [HLEN.out, HCS.out]; show 0 + l0.length * 1 ≤ l0.length * 1; omega); intro w2 hw2; have hrow : w2.heap[w.heap.size]? = some (.cells inner.toArray 3 (0, 0)) := (by rw [hw2, setRow_heap _ _ _ _ _ _ HCUR.out]; congr 2; rw [List.take_zero, List.nil_append, List.drop_eq_nil_of_le (by rw [Array.length_toList, HCS.out, HLEN.out]; show l0.length * 1 ≤ 0 + l0.length * 1; omega), List.append_nil]); have HROW := mkHid hrow; have HB : Hid (Below w.heap.size w w2) := (by unfold Hid; rw [hw2]; exact below_setRow (HBEL.out _ HGR.out) (Nat.le_refl _) _); clear hw2 hrow))
      go_ret
      refine ⟨_, rfl, flat_own (n := l0.length) (inner := inner) (fun h _ _ _ => h) ?_ rfl HRep.out, HB.out⟩
      exact ⟨HLEN.out, .inr ⟨w.heap.size, l0.length, inner.toArray, rfl, Nat.le_refl _, HROW.out, Nat.le_refl _, hm3, HLEN.out, List.take_of_length_le (Nat.le_of_eq HLEN.out)⟩⟩
  · exact absurd h (by simp)

def api_Comm_59.f (l0 : List S63) : Option (List S63) := if l0.length * 16 ≤ 140737488355328 then some l0 else none
theorem api_Comm_59.info : (Try.prog.info? 63).map (fun i => (i.zero, i.size, i.bytes)) = some (some (.agg #[.int .i64 0, .int .i64 0]), 2, 16) := by kernel_rfl
set_option maxHeartbeats 1000000 in
set_option maxRecDepth 100000 in
theorem api_Comm_59.calls (A0 : Option Addr) (c0 : Nat) (l0 : List S63) (r : List S63) (w : World) (hr0 : Kd.C k63 w A0 l0.length l0) (hc0 : l0.length ≤ c0) (h : api_Comm_59.f l0 = some r) :
    Calls Try.prog 59 #[.slice A0 l0.length c0] w fun e w' => ∃ v0_ : Value, e = .returned v0_ ∧ Kd.R k63 63 w' w.heap.size (fun _ => True) v0_ r ∧ Below w.heap.size w w' := by
  unfold api_Comm_59.f at h
  split at h
  · rename_i hb
    obtain rfl := Option.some.inj h
    have HR := mkHid hr0
    obtain ⟨i0, hi, hz0, hz1, hz2⟩ := info_parts api_Comm_59.info
    by_cases h0 : l0 = []
    · subst h0
      clear h hr0 hi hz0 hz1 hz2
      go_enter Try.func59, Try.ntmps59
      go_wp2_with fail
      go_ret
      exact ⟨_, rfl, Kd.R_nil _ _ _ _ _, Below.refl _ _⟩
    · have hpos : 0 < l0.length := List.length_pos_iff.2 h0
      obtain ⟨ad, hA, _⟩ := hr0.2.2 hpos
      subst hA
      obtain ⟨inner, hrep, hcell⟩ := ReadsRow.inner_ hr0
      have hone := Reps.one_ hrep (by decide)
      have q1 : ((l0.length : Int) == 0) = false := by rw [beq_eq_false_iff_ne]; omega
      have q2 : (l0.length == 0) = false := by rw [beq_eq_false_iff_ne]; omega
      have HLEN := mkHid hrep.1
      have HRep := mkHid hrep
      have HCell := mkHid hcell
      have HOne := mkHid hone
      have HPOS := mkHid hpos
      have hszm : (Try.prog.info? 63).map (·.size) = some 2 := by rw [hi]; exact congrArg some hz1
      have HSZ := mkHid hszm
      have HI := mkHid hi
      have HZ0 := mkHid hz0
      have HZ1 := mkHid hz1
      have hb2 : i0.bytes * l0.length ≤ 281474976710656 := by rw [hz2, Nat.mul_comm]; omega
      have hm3 : l0.length ≤ maxLen := by unfold maxLen; omega
      clear h hr0 hrep hcell hone h0 hpos hi hz0 hz1 hz2 hszm
      have hown_cells : ∀ (W : World), W.ownsRow w.heap.size 63 2 (.slice (some ⟨w.heap.size, 0, none⟩) l0.length l0.length) l0.length (madeCells ((.agg #[.int .i64 0, .int .i64 0]) : Value).cells (l0.length * 2)).toList → ∃ cur : Array Value, W.heap[w.heap.size]? = some (.cells cur 63 (0, 0)) ∧ cur.size = l0.length * 2 := by
        rintro W ⟨_, hr⟩
        rcases hr with ⟨he, _⟩ | ⟨g, cap, cur, he, _, hh, _, _, hs, _⟩
        · cases he
        · injection he with e1 _ e3
          injection e1 with e1
          injection e1 with e1
          subst e1; subst e3
          exact ⟨cur, hh, hs⟩
      have HOC := mkHid hown_cells
      have hsame : ∀ (W : World), w.grownBy W none → ∀ (j : Nat) u, inner[j]? = some u → W.cell? (ad.add j) = some u := fun W hg j u hu => ((Below.refl w.heap.size w).grown hg (Nat.le_refl _) (fun k hk => by cases hk)).cell (World.block_lt_of_cell? _ _ (HCell.out j u hu)) |>.trans (HCell.out j u hu)
      have HSAME := mkHid hsame
      have hbel : ∀ (W : World), w.grownBy W none → Below w.heap.size w W := fun W hg => (Below.refl _ _).grown hg (Nat.le_refl _) (fun k hk => by cases hk)
      have HBEL := mkHid hbel
      have hmin : inner.length = Nat.min l0.length l0.length * 2 := by rw [HLEN.out, show Nat.min l0.length l0.length = l0.length from Nat.min_self _]; rfl
      have HMIN := mkHid hmin
      clear hown_cells hsame hbel hmin
      go_enter Try.func59, Try.ntmps59
      go_wp2_with (first | (refine wpList_make_full _ rfl _ _ 28 rfl w.heap.size 63 i0 _ 2 Try.underlying28 HI.out HZ0.out HZ1.out .i64 .i64 _ _ l0.length rfl rfl rfl rfl hb2 hm3 (Nat.le_refl _) ?_; intro w1 hown hgr; obtain ⟨cur, hcur, hcs⟩ := HOC.out w1 hown; have HCUR := mkHid hcur; have HCS := mkHid hcs; have HGR := mkHid hgr; clear hcur hcs hown hgr) | (refine wpList_copy_cellsG (o := ⟨some 12, _, _, _, _, _⟩) rfl (.tmp 10) (.tmp 11) 28 28 rfl 63 Try.underlying28 2 HSZ.out w.heap.size 0 l0.length l0.length ad l0.length c0 rfl rfl cur 63 HCUR.out inner HMIN.out (HSAME.out _ HGR.out) ?h3 HOne.out ?_; (case h3 => rw [HLEN.out, HCS.out]; show 0 + l0.length * 2 ≤ l0.length * 2; omega); intro w2 hw2; have hrow : w2.heap[w.heap.size]? = some (.cells inner.toArray 63 (0, 0)) := (by rw [hw2, setRow_heap _ _ _ _ _ _ HCUR.out]; congr 2; rw [List.take_zero, List.nil_append, List.drop_eq_nil_of_le (by rw [Array.length_toList, HCS.out, HLEN.out]; show l0.length * 2 ≤ 0 + l0.length * 2; omega), List.append_nil]); have HROW := mkHid hrow; have HB : Hid (Below w.heap.size w w2) := (by unfold Hid; rw [hw2]; exact below_setRow (HBEL.out _ HGR.out) (Nat.le_refl _) _); clear hw2 hrow))
      go_ret
      refine ⟨_, rfl, flat_own (n := l0.length) (inner := inner) (fun h w1 b ok => by have e := k63_open h; subst e; exact k63_mkM w1 b ok _) ?_ rfl HRep.out, HB.out⟩
      exact ⟨HLEN.out, .inr ⟨w.heap.size, l0.length, inner.toArray, rfl, Nat.le_refl _, HROW.out, Nat.le_refl _, hm3, HLEN.out, List.take_of_length_le (Nat.le_of_eq HLEN.out)⟩⟩
  · exact absurd h (by simp)

def attr_Copy.f (a0_0 : Int) (a0_1 : Int) (a0_2 : Int) (l0_3 : List Int) (l0_4 : List (S63)) (a0_5 : Int) (l0_6 : List Int) : Option (Int × Int × Int × List Int × (List (S63)) × Int × List Int) := (attr_cloned_int.f l0_3).bind fun t339 => ((api_Comm_59.f l0_4).bind fun t342 => ((attr_cloned_int.f l0_6).bind fun t345 => (some (a0_0, a0_1, a0_2, t339, t342, a0_5, t345))))
def attr_Copy.T1 : Bool × List (List Nat × List Nat) := (true, [([], []), ([0], [0]), ([1], [1]), ([], []), ([3], [3]), ([4, 2], [4]), ([], []), ([6], [6]), ([7, 5], [7]), ([0, 1, 2, 3, 4, 6, 7], []), ([9, 2, 8, 0, 1, 2, 3, 4, 6, 7], [2, 9]), ([0, 1, 2, 3, 4, 5, 6, 7, 9, 10], []), ([11, 5, 10, 0, 1, 2, 3, 4, 5, 6, 7, 9, 10], [5, 11]), ([0, 1, 2, 3, 4, 5, 6, 7, 8, 9, 10, 11, 12], []), ([13, 8, 12, 0, 1, 2, 3, 4, 5, 6, 7, 8, 9, 10, 11, 12], [8, 13])])
def attr_Copy.B1 : List Nat := [0, 1, 3, 0, 8, 31, 0, 64, 255, 223, 1023, 2047, 4095, 8191, 16383]
theorem attr_Copy.tab1 : rtab .any (opsOf Try.f25 1) = attr_Copy.T1 := by kernel_rfl
theorem attr_Copy.bits1 : waitsOk attr_Copy.T1.2 attr_Copy.B1 = true := by kernel_rfl
theorem k8ab0.b7e {W : World} {g : Nat} {v0 v1 v2 v3 v4 v5 v6 : Value} {t : TypeId} (h : W.heap[g]? = some (.cells #[v0, v1, v2, v3, v4, v5, v6] t (0, 0))) : W.cell? ⟨g, 0, none⟩ = some v0 ∧ W.cell? ⟨g, 1, none⟩ = some v1 ∧ W.cell? ⟨g, 2, none⟩ = some v2 ∧ W.cell? ⟨g, 3, none⟩ = some v3 ∧ W.cell? ⟨g, 4, none⟩ = some v4 ∧ W.cell? ⟨g, 5, none⟩ = some v5 ∧ W.cell? ⟨g, 6, none⟩ = some v6 :=
  ⟨(blk_cell h 0).trans rfl, (blk_cell h 1).trans rfl, (blk_cell h 2).trans rfl, (blk_cell h 3).trans rfl, (blk_cell h 4).trans rfl, (blk_cell h 5).trans rfl, (blk_cell h 6).trans rfl⟩
@[reducible] def k8ab0.S0 (g0 : Nat) (v0 v1 v2 v3 v4 v5 v6 : Value) (w' : World) : Prop := w'.cell? ⟨g0, 0, none⟩ = some v0 ∧ w'.cell? ⟨g0, 1, none⟩ = some v1 ∧ w'.cell? ⟨g0, 2, none⟩ = some v2 ∧ w'.cell? ⟨g0, 3, none⟩ = some v3 ∧ w'.cell? ⟨g0, 4, none⟩ = some v4 ∧ w'.cell? ⟨g0, 5, none⟩ = some v5 ∧ w'.cell? ⟨g0, 6, none⟩ = some v6
set_option maxHeartbeats 8000000 in
set_option maxRecDepth 100000 in
theorem attr_Copy.calls (ae : Int) (af : Int) (ag : Int) (ap : Option Addr) (aq : Nat) (ai : List Int) (ar : Option Addr) (au : Nat) (aj : List (S63)) (ak : Int) (av : Option Addr) (aw : Nat) (al : List Int) (r1 : Int) (r2 : Int) (r3 : Int) (r4 : List Int) (r5 : List (S63)) (r6 : Int) (r7 : List Int) (w : World) (hr0_3 : Kd.C (Kd.int .i64) w ap ai.length ai) (hc0_3 : ai.length ≤ aq) (hr0_4 : Kd.C k63 w ar aj.length aj) (hc0_4 : aj.length ≤ au) (hr0_6 : Kd.C (Kd.int .i64) w av al.length al) (hc0_6 : al.length ≤ aw) (h : attr_Copy.f ae af ag ai aj ak al = some (r1, r2, r3, r4, r5, r6, r7)) :
  Calls Try.prog 25 #[.agg #[.int .i64 ae, .int .i64 af, .int .i64 ag, .slice ap ai.length aq, .slice ar aj.length au, .int .i64 ak, .slice av al.length aw]] w fun e w' => ∃ v3_ v4_ v6_ : Value, e = .returned (.agg #[.int .i64 r1, .int .i64 r2, .int .i64 r3, v3_, v4_, .int .i64 r6, v6_]) ∧ Kd.R (Kd.int .i64) 3 w' w.heap.size (fun k_ => some k_ ≠ (v6_ : Value).ownBlock) v3_ r4 ∧ Kd.R k63 63 w' w.heap.size (fun _ => True) v4_ r5 ∧ Kd.R (Kd.int .i64) 3 w' w.heap.size (fun k_ => some k_ ≠ (v3_ : Value).ownBlock) v6_ r7 ∧ Below w.heap.size w w' := by
 have hu30 := Try.underlying30
 have HR0_3 := Aside0.mk hr0_3
 have HC0_3 := Aside0.mk hc0_3
 clear hr0_3 hc0_3
 have HR0_4 := Aside0.mk hr0_4
 have HC0_4 := Aside0.mk hc0_4
 clear hr0_4 hc0_4
 have HR0_6 := Aside0.mk hr0_6
 have HC0_6 := Aside0.mk hc0_6
 clear hr0_6 hc0_6
 have HB := Aside0.mk (Below.refl w.heap.size w)
 have H : ((attr_cloned_int.f ai).bind fun t339 => ((api_Comm_59.f aj).bind fun t342 => ((attr_cloned_int.f al).bind fun t345 => (some (ae, af, ag, t339, t342, ak, t345))))) = some (r1, r2, r3, r4, r5, r6, r7) := h
 clear h
 replace H := Option.bind_eq_some_iff.mp H
 obtain ⟨t339, A20, H⟩ := H
 (try dsimp only at H)
 have A2 := Aside0.mk A20
 clear A20
 replace H := Option.bind_eq_some_iff.mp H
 obtain ⟨t342, A30, H⟩ := H
 (try dsimp only at H)
 have A3 := Aside0.mk A30
 clear A30
 replace H := Option.bind_eq_some_iff.mp H
 obtain ⟨t345, A40, H⟩ := H
 replace H : (some (ae, af, ag, t339, t342, ak, t345)) = some (r1, r2, r3, r4, r5, r6, r7) := H
 have A4 := Aside0.mk A40
 clear A40
 simp only [Option.some.injEq, Prod.mk.injEq] at H
 obtain ⟨rfl, rfl, rfl, rfl, rfl, rfl, rfl⟩ := H
 go_enter Try.func25, Try.ntmps25
 try go_wp2_with (first | ((with_reducible refine gate_dst (N := 1) rfl ?_); refine box_event ?hg (N := 1) ?hd (cs := #[.int .i64 ae, .int .i64 af, .int .i64 ag, .slice ap ai.length aq, .slice ar aj.length au, .int .i64 ak, .slice av al.length aw]) (t := 30) ?hr ?_; (case hd => rfl); (case hg => rfl); (case hr => first | (go_simp; done) | (go_simp; rfl)); intro ac hg w5 hbox hb; have n0_ := Aside0.mk (below_step (by repeat (first | (with_reducible first | exact HB.out | apply below_alloc | apply pw_below_drewN | apply below_drew1) | exact HB.out)) hb); have n1_ := Aside0.mk (hbox); have n2_ := Aside0.mk ((by rw [hg]; exact (below_size (by repeat (first | (with_reducible first | exact HB.out | apply below_alloc | apply pw_below_drewN | apply below_drew1) | exact HB.out))) : w.heap.size ≤ ac)); have n3_ := Aside0.mk ((by rw [hg]; exact (below_size (by repeat (first | (with_reducible first | exact HB.out | apply below_alloc | apply pw_below_drewN | apply below_drew1) | exact HB.out))) : w.heap.size ≤ ac)); clear HB; have HB := n0_; have aa := n1_; have GW337 := n2_; have ah := n3_; clear n0_ n1_ n2_ n3_; clear hb hbox hg) | ((with_reducible refine gate_dst (N := 2) rfl ?_); refine box_event ?hg (N := 2) ?hd (cs := #[.int .i64 0, .int .i64 0, .int .i64 0, .slice none 0 0, .slice none 0 0, .int .i64 0, .slice none 0 0]) (t := 30) ?hr ?_; (case hd => rfl); (case hg => rfl); (case hr => first | (go_simp; done) | (go_simp; rfl)); intro ab hg w6 hbox hb; have n0_ := Aside0.mk (blk_below (g := ac) (by (with_reducible repeat (first | refine blk_drewN ?_ _ | refine blk_drew ?_ | refine blk_alloc ?_ _)); exact aa.out) hb); have n1_ := Aside0.mk (below_step (by repeat (first | (with_reducible first | exact HB.out | apply below_alloc | apply pw_below_drewN | apply below_drew1 | refine below_set ?_ ah.out) | exact HB.out)) hb); have n2_ := Aside0.mk (hbox); have n3_ := Aside0.mk ((by rw [hg]; exact (below_size (by repeat (first | (with_reducible first | exact HB.out | apply below_alloc | apply pw_below_drewN | apply below_drew1 | refine below_set ?_ ah.out) | exact HB.out))) : w.heap.size ≤ ab)); have n4_ := Aside0.mk ((by rw [hg]; exact (below_size (by repeat (first | (with_reducible first | exact HB.out | apply below_alloc | apply pw_below_drewN | apply below_drew1 | refine below_set ?_ ah.out) | exact HB.out))) : w.heap.size ≤ ab)); have n5_ := Aside0.mk ((by rw [hg]; exact Nat.ne_of_lt (blk_lt (g := ac) (o := .cells #[.int .i64 ae, .int .i64 af, .int .i64 ag, .slice ap ai.length aq, .slice ar aj.length au, .int .i64 ak, .slice av al.length aw] 30 (0, 0)) (by (with_reducible repeat (first | refine blk_drewN ?_ _ | refine blk_drew ?_ | refine blk_alloc ?_ _)); exact aa.out)) : ac ≠ ab)); have n6_ := Aside0.mk ((by rw [hg]; exact Nat.ne_of_gt (blk_lt (g := ac) (o := .cells #[.int .i64 ae, .int .i64 af, .int .i64 ag, .slice ap ai.length aq, .slice ar aj.length au, .int .i64 ak, .slice av al.length aw] 30 (0, 0)) (by (with_reducible repeat (first | refine blk_drewN ?_ _ | refine blk_drew ?_ | refine blk_alloc ?_ _)); exact aa.out)) : ab ≠ ac)); clear aa; clear HB; have aa := n0_; have HB := n1_; have ad := n2_; have GW338 := n3_; have GE338 := n4_; have NB337_338 := n5_; have NB338_337 := n6_; clear n0_ n1_ n2_ n3_ n4_ n5_ n6_; clear hb hbox hg))
 have n0_ := Aside0.mk (blk_drew aa.out)
 have n1_ := Aside0.mk (blk_drew ad.out)
 have n2_ := Aside0.mk (below_drew1 HB.out)
 clear aa
 clear ad
 clear HB
 have aa := n0_
 have ad := n1_
 have HB := n2_
 clear n0_ n1_ n2_
 refine start_ (n := 15) (S := k8ab0.S0 ac (.int .i64 ae) (.int .i64 af) (.int .i64 ag) (.slice ap ai.length aq) (.slice ar aj.length au) (.int .i64 ak) (.slice av al.length aw)) (ds := [10, 12, 14]) #[false, false, false, false, false, false, false, false, false, false, false, false, false, false, false] (by kernel_rfl) rfl rfl (k8ab0.b7e aa.out) (fun hHeld => ?_); refine with_tabW attr_Copy.tab1 attr_Copy.bits1 (fun HT_ HW_ => ?_)
 generalize w6.drew = w7 at aa ad HB hHeld ⊢
 refine pure_ (i := 0) (N := some 3) (v := ?_) (a' := ?_) #[true, false, false, false, false, false, false, false, false, false, false, false, false, false, false] rfl rfl (any_of HT_.out (by kernel_rfl)) (fun _ _ _ h => h) (Or.inl ⟨by rfl, ?_⟩) ?_ ?_
 rotate_left
 ·intro w'
  go_simp
  with_reducible rfl
 rotate_left
 ·simp only [Act.put, List.setIfInBounds_toArray, List.set_cons_zero, List.set_cons_succ, i64_w, i32_w]
  rfl
 refine pure_ (i := 3) (N := some 6) (v := ?_) (a' := ?_) #[true, false, false, true, false, false, false, false, false, false, false, false, false, false, false] rfl rfl (any_of HT_.out (by kernel_rfl)) (fun _ _ _ h => h) (Or.inl ⟨by rfl, ?_⟩) ?_ ?_
 rotate_left
 ·intro w'
  go_simp
  with_reducible rfl
 rotate_left
 ·simp only [Act.put, List.setIfInBounds_toArray, List.set_cons_zero, List.set_cons_succ, i64_w, i32_w]
  rfl
 refine pure_ (i := 6) (N := some 9) (v := ?_) (a' := ?_) #[true, false, false, true, false, false, true, false, false, false, false, false, false, false, false] rfl rfl (any_of HT_.out (by kernel_rfl)) (fun _ _ _ h => h) (Or.inl ⟨by rfl, ?_⟩) ?_ ?_
 rotate_left
 ·intro w'
  go_simp
  with_reducible rfl
 rotate_left
 ·simp only [Act.put, List.setIfInBounds_toArray, List.set_cons_zero, List.set_cons_succ, i64_w, i32_w]
  rfl
 refine take_ (i := 1) (N := some 4) (v := ?_) (a' := ?_) #[true, true, false, true, false, false, true, false, false, false, false, false, false, false, false] rfl rfl (take_ofW HT_.out HW_.out (by kernel_rfl)) (fun _ _ _ h => h) (Or.inl ⟨by rfl, ?_⟩) hHeld ?_ ?_
 rotate_left
 ·rintro w' ⟨s0, s1, s2, s3, s4, s5, s6⟩
  go_simp
  with_reducible rfl
 rotate_left
 ·simp only [Act.put, List.setIfInBounds_toArray, List.set_cons_zero, List.set_cons_succ, i64_w, i32_w]
  rfl
 refine take_ (i := 4) (N := some 7) (v := ?_) (a' := ?_) #[true, true, false, true, true, false, true, false, false, false, false, false, false, false, false] rfl rfl (take_ofW HT_.out HW_.out (by kernel_rfl)) (fun _ _ _ h => h) (Or.inl ⟨by rfl, ?_⟩) hHeld ?_ ?_
 rotate_left
 ·rintro w' ⟨s0, s1, s2, s3, s4, s5, s6⟩
  go_simp
  with_reducible rfl
 rotate_left
 ·simp only [Act.put, List.setIfInBounds_toArray, List.set_cons_zero, List.set_cons_succ, i64_w, i32_w]
  rfl
 refine take_ (i := 7) (N := some 10) (v := ?_) (a' := ?_) #[true, true, false, true, true, false, true, true, false, false, false, false, false, false, false] rfl rfl (take_ofW HT_.out HW_.out (by kernel_rfl)) (fun _ _ _ h => h) (Or.inl ⟨by rfl, ?_⟩) hHeld ?_ ?_
 rotate_left
 ·rintro w' ⟨s0, s1, s2, s3, s4, s5, s6⟩
  go_simp
  with_reducible rfl
 rotate_left
 ·simp only [Act.put, List.setIfInBounds_toArray, List.set_cons_zero, List.set_cons_succ, i64_w, i32_w]
  rfl
 refine one_ (i := 2) (N := some 5) #[true, true, true, true, true, false, true, true, false, false, false, false, false, false, false] rfl rfl (one_of HT_.out (by kernel_rfl)) (by decide) (fun K hK => ?_)
 refine goes_ Try.func52 (by kernel_rfl) rfl #[.slice ap ai.length aq] (by rfl) rfl rfl (by (try simp only [List.map_toArray, List.map_cons, List.map_nil]); first | done | rfl) ?_
 with_reducible refine (attr_cloned_int.calls _ _ ai t339 _ ?side1 ?side2 A2.out).mono ?_
 (case side1 => repeat (first | exact (Kd.C_below HR0_3.out HB.out) | (with_reducible refine Kd.C_alloc ?_ _) | (with_reducible refine Kd.C_drewN ?_ _) | (with_reducible refine Kd.C_drew ?_)))
 (case side2 => exact HC0_3.out)
 rintro e w8 ⟨v340, rfl, ho0, hb⟩
 refine ⟨_, rfl, ?_⟩
 have am := Aside0.mk (Kd.R_lower ho0 (below_size (by repeat (first | (with_reducible first | exact HB.out | apply below_alloc | apply pw_below_drewN | apply below_drew1 | refine below_set ?_ ah.out | refine below_set ?_ GE338.out) | exact HB.out))))
 replace aa := Aside0.mk (blk_below (g := ac) (by (with_reducible repeat (first | refine blk_drewN ?_ _ | refine blk_drew ?_ | refine blk_alloc ?_ _)); exact aa.out) hb)
 replace ad := Aside0.mk (blk_below (g := ab) (by (with_reducible repeat (first | refine blk_drewN ?_ _ | refine blk_drew ?_ | refine blk_alloc ?_ _)); exact ad.out) hb)
 replace HB := Aside0.mk (below_step (by repeat (first | (with_reducible first | exact HB.out | apply below_alloc | apply pw_below_drewN | apply below_drew1 | refine below_set ?_ ah.out | refine below_set ?_ GE338.out) | exact HB.out)) hb)
 (try clear hb)
 (try clear hb2)
 (try clear hk)
 (try clear hi)
 (try clear ho0)
 refine hK.out _ _ (k8ab0.b7e aa.out) (fun hHeld => ?_)
 clear hK K
 refine norm_ (a' := ?_) ?_ ?_
 rotate_left
 ·show Act.put _ (some 5) _ = _
  simp only [Act.put, List.setIfInBounds_toArray, List.set_cons_zero, List.set_cons_succ, i64_w, i32_w]
  rfl
 refine pure_ (i := 9) (N := some 12) (v := ?_) (a' := ?_) #[true, true, true, true, true, false, true, true, false, true, false, false, false, false, false] rfl rfl (any_of HT_.out (by kernel_rfl)) (fun _ _ _ h => h) (Or.inl ⟨by rfl, ?_⟩) ?_ ?_
 rotate_left
 ·intro w'
  go_simp
  with_reducible rfl
 rotate_left
 ·simp only [Act.put, List.setIfInBounds_toArray, List.set_cons_zero, List.set_cons_succ, i64_w, i32_w]
  rfl
 refine one_ (i := 5) (N := some 8) #[true, true, true, true, true, true, true, true, false, true, false, false, false, false, false] rfl rfl (one_of HT_.out (by kernel_rfl)) (by decide) (fun K hK => ?_)
 refine goes_ Try.func59 (by kernel_rfl) rfl #[.slice ar aj.length au] (by rfl) rfl rfl (by (try simp only [List.map_toArray, List.map_cons, List.map_nil]); first | done | rfl) ?_
 with_reducible refine (api_Comm_59.calls _ _ aj t342 _ ?side1 ?side2 A3.out).mono ?_
 (case side1 => repeat (first | exact (Kd.C_below HR0_4.out HB.out) | (with_reducible refine Kd.C_alloc ?_ _) | (with_reducible refine Kd.C_drewN ?_ _) | (with_reducible refine Kd.C_drew ?_)))
 (case side2 => exact HC0_4.out)
 rintro e w9 ⟨v343, rfl, ho0, hb⟩
 refine ⟨_, rfl, ?_⟩
 replace am := Aside0.mk (Kd.R_below (by (with_reducible repeat (first | apply Kd.R_alloc | apply Kd.R_drewN | apply Kd.R_drew)); exact am.out) hb)
 have HO344 := Aside0.mk (Kd.R_lower ho0 (below_size (by repeat (first | (with_reducible first | exact HB.out | apply below_alloc | apply pw_below_drewN | apply below_drew1 | refine below_set ?_ ah.out | refine below_set ?_ GE338.out) | exact HB.out))))
 replace aa := Aside0.mk (blk_below (g := ac) (by (with_reducible repeat (first | refine blk_drewN ?_ _ | refine blk_drew ?_ | refine blk_alloc ?_ _)); exact aa.out) hb)
 replace ad := Aside0.mk (blk_below (g := ab) (by (with_reducible repeat (first | refine blk_drewN ?_ _ | refine blk_drew ?_ | refine blk_alloc ?_ _)); exact ad.out) hb)
 replace HB := Aside0.mk (below_step (by repeat (first | (with_reducible first | exact HB.out | apply below_alloc | apply pw_below_drewN | apply below_drew1 | refine below_set ?_ ah.out | refine below_set ?_ GE338.out) | exact HB.out)) hb)
 (try clear hb)
 (try clear hb2)
 (try clear hk)
 (try clear hi)
 (try clear ho0)
 refine hK.out _ _ (k8ab0.b7e aa.out) (fun hHeld => ?_)
 clear hK K
 refine norm_ (a' := ?_) ?_ ?_
 rotate_left
 ·show Act.put _ (some 8) _ = _
  simp only [Act.put, List.setIfInBounds_toArray, List.set_cons_zero, List.set_cons_succ, i64_w, i32_w]
  rfl
 refine one_ (i := 8) (N := some 11) #[true, true, true, true, true, true, true, true, true, true, false, false, false, false, false] rfl rfl (one_of HT_.out (by kernel_rfl)) (by decide) (fun K hK => ?_)
 refine goes_ Try.func52 (by kernel_rfl) rfl #[.slice av al.length aw] (by rfl) rfl rfl (by (try simp only [List.map_toArray, List.map_cons, List.map_nil]); first | done | rfl) ?_
 with_reducible refine (attr_cloned_int.calls _ _ al t345 _ ?side1 ?side2 A4.out).mono ?_
 (case side1 => repeat (first | exact (Kd.C_below HR0_6.out HB.out) | (with_reducible refine Kd.C_alloc ?_ _) | (with_reducible refine Kd.C_drewN ?_ _) | (with_reducible refine Kd.C_drew ?_)))
 (case side2 => exact HC0_6.out)
 rintro e w10 ⟨v346, rfl, ho0, hb⟩
 refine ⟨_, rfl, ?_⟩
 have n0_ := Aside0.mk (Kd.R_elder' (by (with_reducible repeat (first | apply Kd.R_alloc | apply Kd.R_drewN | apply Kd.R_drew)); exact am.out) (Kd.R_base ho0) hb)
 have n1_ := Aside0.mk (Kd.R_below (by (with_reducible repeat (first | apply Kd.R_alloc | apply Kd.R_drewN | apply Kd.R_drew)); exact HO344.out) hb)
 have n2_ := Aside0.mk (Kd.R_lower (Kd.R_new' ho0 (Kd.R_lt (by (with_reducible repeat (first | apply Kd.R_alloc | apply Kd.R_drewN | apply Kd.R_drew)); exact am.out))) (below_size (by repeat (first | (with_reducible first | exact HB.out | apply below_alloc | apply pw_below_drewN | apply below_drew1 | refine below_set ?_ ah.out | refine below_set ?_ GE338.out) | exact HB.out))))
 have n3_ := Aside0.mk (blk_below (g := ac) (by (with_reducible repeat (first | refine blk_drewN ?_ _ | refine blk_drew ?_ | refine blk_alloc ?_ _)); exact aa.out) hb)
 have n4_ := Aside0.mk (blk_below (g := ab) (by (with_reducible repeat (first | refine blk_drewN ?_ _ | refine blk_drew ?_ | refine blk_alloc ?_ _)); exact ad.out) hb)
 have n5_ := Aside0.mk (below_step (by repeat (first | (with_reducible first | exact HB.out | apply below_alloc | apply pw_below_drewN | apply below_drew1 | refine below_set ?_ ah.out | refine below_set ?_ GE338.out) | exact HB.out)) hb)
 clear am
 clear HO344
 clear aa
 clear ad
 clear HB
 have am := n0_
 have HO344 := n1_
 have HO347 := n2_
 have aa := n3_
 have ad := n4_
 have HB := n5_
 clear n0_ n1_ n2_ n3_ n4_ n5_
 (try clear hb)
 (try clear hb2)
 (try clear hk)
 (try clear hi)
 (try clear ho0)
 obtain ⟨an, ao, eo11⟩ := Kd.R_slice am.out
 (first | subst eo11 | (injection eo11 with f1_ f2_ f3_; have f4_ := f1_.symm; have f5_ := f3_.symm; clear f1_ f2_ f3_; subst f4_; subst f5_))
 obtain ⟨ax, ay, eo13⟩ := Kd.R_slice HO344.out
 (first | subst eo13 | (injection eo13 with f1_ f2_ f3_; have f4_ := f1_.symm; have f5_ := f3_.symm; clear f1_ f2_ f3_; subst f4_; subst f5_))
 obtain ⟨Ao15, co15, eo15⟩ := Kd.R_slice HO347.out
 (first | subst eo15 | (injection eo15 with f1_ f2_ f3_; have f4_ := f1_.symm; have f5_ := f3_.symm; clear f1_ f2_ f3_; subst f4_; subst f5_))
 refine hK.out _ _ (k8ab0.b7e aa.out) (fun hHeld => ?_)
 clear hK K
 refine norm_ (a' := ?_) ?_ ?_
 rotate_left
 ·show Act.put _ (some 11) _ = _
  simp only [Act.put, List.setIfInBounds_toArray, List.set_cons_zero, List.set_cons_succ, i64_w, i32_w]
  rfl
 refine last_ (i := 10) (N := none) #[true, true, true, true, true, true, true, true, true, true, true, false, false, false, false] rfl rfl (one_of HT_.out (by kernel_rfl)) (by decide) (fun K hK => ?_)
 have hs12 : w10.cell? ⟨ac, 3, none⟩ = some (.slice ap ai.length aq) := (blk_cell aa.out 3).trans rfl
 have hfs12 := blk_frozen aa.out 3
 have hns12_1 := NB338_337.out
 have hms12_1 := NB337_338.out
 refine skip_ (w1 := ?_) (by rfl) rfl ?_ ?_
 rotate_left
 ·go_simp
  rfl
 refine hK.out _ _ ?_
 clear hK K
 refine pure_ (i := 11) (N := some 13) (v := ?_) (a' := ?_) #[true, true, true, true, true, true, true, true, true, true, true, true, false, false, false] rfl rfl (any_of HT_.out (by kernel_rfl)) (fun _ _ _ h => h) (Or.inl ⟨by rfl, ?_⟩) ?_ ?_
 rotate_left
 ·intro w'
  go_simp
  with_reducible rfl
 rotate_left
 ·simp only [Act.put, List.setIfInBounds_toArray, List.set_cons_zero, List.set_cons_succ, i64_w, i32_w]
  rfl
 refine last_ (i := 12) (N := none) #[true, true, true, true, true, true, true, true, true, true, true, true, true, false, false] rfl rfl (one_of HT_.out (by kernel_rfl)) (by decide) (fun K hK => ?_)
 have hs14 : w10.cell? ⟨ac, 4, none⟩ = some (.slice ar aj.length au) := (blk_cell aa.out 4).trans rfl
 have hfs14 := blk_frozen aa.out 4
 have hns14_1 := NB338_337.out
 have hms14_1 := NB337_338.out
 refine skip_ (w1 := ?_) (by rfl) rfl ?_ ?_
 rotate_left
 ·go_simp
  rfl
 refine hK.out _ _ ?_
 clear hK K
 refine pure_ (i := 13) (N := some 14) (v := ?_) (a' := ?_) #[true, true, true, true, true, true, true, true, true, true, true, true, true, true, false] rfl rfl (any_of HT_.out (by kernel_rfl)) (fun _ _ _ h => h) (Or.inl ⟨by rfl, ?_⟩) ?_ ?_
 rotate_left
 ·intro w'
  go_simp
  with_reducible rfl
 rotate_left
 ·simp only [Act.put, List.setIfInBounds_toArray, List.set_cons_zero, List.set_cons_succ, i64_w, i32_w]
  rfl
 refine last_ (i := 14) (N := none) #[true, true, true, true, true, true, true, true, true, true, true, true, true, true, true] rfl rfl (one_of HT_.out (by kernel_rfl)) (by decide) (fun K hK => ?_)
 have hs16 : w10.cell? ⟨ac, 6, none⟩ = some (.slice av al.length aw) := (blk_cell aa.out 6).trans rfl
 have hfs16 := blk_frozen aa.out 6
 have hns16_1 := NB338_337.out
 have hms16_1 := NB337_338.out
 refine skip_ (w1 := ?_) (by rfl) rfl ?_ ?_
 rotate_left
 ·go_simp
  rfl
 refine hK.out _ _ ?_
 clear hK K
 refine done_ (done_of HT_.out (by kernel_rfl)) ?_
 have hnb17 := NB337_338.out
 have hnc17 := NB338_337.out
 have hcz18_0 : w10.cell? ⟨ac, 0, none⟩ = some (.int .i64 ae) := (blk_cell aa.out 0).trans rfl
 have hcz18_1 : w10.cell? ⟨ac, 1, none⟩ = some (.int .i64 af) := (blk_cell aa.out 1).trans rfl
 have hcz18_2 : w10.cell? ⟨ac, 2, none⟩ = some (.int .i64 ag) := (blk_cell aa.out 2).trans rfl
 have hcz18_3 : w10.cell? ⟨ac, 3, none⟩ = some (.slice ap ai.length aq) := (blk_cell aa.out 3).trans rfl
 have hcz18_4 : w10.cell? ⟨ac, 4, none⟩ = some (.slice ar aj.length au) := (blk_cell aa.out 4).trans rfl
 have hcz18_5 : w10.cell? ⟨ac, 5, none⟩ = some (.int .i64 ak) := (blk_cell aa.out 5).trans rfl
 have hcz18_6 : w10.cell? ⟨ac, 6, none⟩ = some (.slice av al.length aw) := (blk_cell aa.out 6).trans rfl
 have hfz18_0 := blk_frozen aa.out 0
 have hfz18_1 := blk_frozen aa.out 1
 have hfz18_2 := blk_frozen aa.out 2
 have hfz18_3 := blk_frozen aa.out 3
 have hfz18_4 := blk_frozen aa.out 4
 have hfz18_5 := blk_frozen aa.out 5
 have hfz18_6 := blk_frozen aa.out 6
 have hcz19_0 : w10.cell? ⟨ab, 0, none⟩ = some (.int .i64 0) := (blk_cell ad.out 0).trans rfl
 have hcz19_1 : w10.cell? ⟨ab, 1, none⟩ = some (.int .i64 0) := (blk_cell ad.out 1).trans rfl
 have hcz19_2 : w10.cell? ⟨ab, 2, none⟩ = some (.int .i64 0) := (blk_cell ad.out 2).trans rfl
 have hcz19_3 : w10.cell? ⟨ab, 3, none⟩ = some (.slice none 0 0) := (blk_cell ad.out 3).trans rfl
 have hcz19_4 : w10.cell? ⟨ab, 4, none⟩ = some (.slice none 0 0) := (blk_cell ad.out 4).trans rfl
 have hcz19_5 : w10.cell? ⟨ab, 5, none⟩ = some (.int .i64 0) := (blk_cell ad.out 5).trans rfl
 have hcz19_6 : w10.cell? ⟨ab, 6, none⟩ = some (.slice none 0 0) := (blk_cell ad.out 6).trans rfl
 have hfz19_0 := blk_frozen ad.out 0
 have hfz19_1 := blk_frozen ad.out 1
 have hfz19_2 := blk_frozen ad.out 2
 have hfz19_3 := blk_frozen ad.out 3
 have hfz19_4 := blk_frozen ad.out 4
 have hfz19_5 := blk_frozen ad.out 5
 have hfz19_6 := blk_frozen ad.out 6
 try go_wp2
 refine bodyPost_ret (results_cell_row rfl _ _ ab 30 #[.int .i64 ae, .int .i64 af, .int .i64 ag, .slice an t339.length ao, .slice ax t342.length ay, .int .i64 ak, .slice Ao15 t345.length co15] (0, 0) _ rfl (by (with_reducible repeat (first | refine blk_drewN ?_ _ | refine blk_drew ?_ | refine blk_alloc ?_ _)); refine blk_put (cs := #[.int .i64 ae, .int .i64 af, .int .i64 ag, .slice an t339.length ao, .slice ax t342.length ay, .int .i64 ak, .slice none 0 0]) ?_ 6 _ rfl; (with_reducible repeat (first | refine blk_drewN ?_ _ | refine blk_drew ?_ | refine blk_alloc ?_ _)); refine blk_put (cs := #[.int .i64 ae, .int .i64 af, .int .i64 ag, .slice an t339.length ao, .slice ax t342.length ay, .int .i64 0, .slice none 0 0]) ?_ 5 _ rfl; (with_reducible repeat (first | refine blk_drewN ?_ _ | refine blk_drew ?_ | refine blk_alloc ?_ _)); refine blk_put (cs := #[.int .i64 ae, .int .i64 af, .int .i64 ag, .slice an t339.length ao, .slice none 0 0, .int .i64 0, .slice none 0 0]) ?_ 4 _ rfl; (with_reducible repeat (first | refine blk_drewN ?_ _ | refine blk_drew ?_ | refine blk_alloc ?_ _)); refine blk_put (cs := #[.int .i64 ae, .int .i64 af, .int .i64 ag, .slice none 0 0, .slice none 0 0, .int .i64 0, .slice none 0 0]) ?_ 3 _ rfl; (with_reducible repeat (first | refine blk_drewN ?_ _ | refine blk_drew ?_ | refine blk_alloc ?_ _)); refine blk_put (cs := #[.int .i64 ae, .int .i64 af, .int .i64 0, .slice none 0 0, .slice none 0 0, .int .i64 0, .slice none 0 0]) ?_ 2 _ rfl; (with_reducible repeat (first | refine blk_drewN ?_ _ | refine blk_drew ?_ | refine blk_alloc ?_ _)); refine blk_put (cs := #[.int .i64 ae, .int .i64 0, .int .i64 0, .slice none 0 0, .slice none 0 0, .int .i64 0, .slice none 0 0]) ?_ 1 _ rfl; (with_reducible repeat (first | refine blk_drewN ?_ _ | refine blk_drew ?_ | refine blk_alloc ?_ _)); refine blk_put (cs := #[.int .i64 0, .int .i64 0, .int .i64 0, .slice none 0 0, .slice none 0 0, .int .i64 0, .slice none 0 0]) ?_ 0 _ rfl; (with_reducible repeat (first | refine blk_drewN ?_ _ | refine blk_drew ?_ | refine blk_alloc ?_ _)); refine blk_far ?_ NB338_337.out _; (with_reducible repeat (first | refine blk_drewN ?_ _ | refine blk_drew ?_ | refine blk_alloc ?_ _)); refine blk_far ?_ NB338_337.out _; (with_reducible repeat (first | refine blk_drewN ?_ _ | refine blk_drew ?_ | refine blk_alloc ?_ _)); refine blk_far ?_ NB338_337.out _; (with_reducible repeat (first | refine blk_drewN ?_ _ | refine blk_drew ?_ | refine blk_alloc ?_ _)); exact ad.out) Try.underlying30 rfl (by kernel_rfl)) rfl ?_
 exact ⟨_, _, _, by first | rfl | (simp [errW_none, errW_some] <;> rfl) | (simp [*, errW_none, errW_some] <;> rfl), by (with_reducible repeat (first | apply Kd.R_alloc | apply Kd.R_drewN | apply Kd.R_drew)); exact Kd.R_mono (Kd.R_far (p := ⟨ab, 6, none⟩) (Kd.R_far (p := ⟨ab, 5, none⟩) (Kd.R_far (p := ⟨ab, 4, none⟩) (Kd.R_far (p := ⟨ab, 3, none⟩) (Kd.R_far (p := ⟨ab, 2, none⟩) (Kd.R_far (p := ⟨ab, 1, none⟩) (Kd.R_far (p := ⟨ab, 0, none⟩) (Kd.R_far (p := ⟨ac, 6, none⟩) (Kd.R_far (p := ⟨ac, 4, none⟩) (Kd.R_far (p := ⟨ac, 3, none⟩) (Kd.R_types (Kd.R_types am.out aa.out (by decide)) ad.out (by decide)) (fun _ hk => hk.1.2) (.slice an t339.length ao)) (fun _ hk => hk.1.2) (.slice ax t342.length ay)) (fun _ hk => hk.1.2) (.slice Ao15 t345.length co15)) (fun _ hk => hk.2) (.int .i64 ae)) (fun _ hk => hk.2) (.int .i64 af)) (fun _ hk => hk.2) (.int .i64 ag)) (fun _ hk => hk.2) (.slice an t339.length ao)) (fun _ hk => hk.2) (.slice ax t342.length ay)) (fun _ hk => hk.2) (.int .i64 ak)) (fun _ hk => hk.2) (.slice Ao15 t345.length co15)) (fun _ hk => hk.1.1.2), by (with_reducible repeat (first | apply Kd.R_alloc | apply Kd.R_drewN | apply Kd.R_drew)); exact Kd.R_mono (Kd.R_far (p := ⟨ab, 6, none⟩) (Kd.R_far (p := ⟨ab, 5, none⟩) (Kd.R_far (p := ⟨ab, 4, none⟩) (Kd.R_far (p := ⟨ab, 3, none⟩) (Kd.R_far (p := ⟨ab, 2, none⟩) (Kd.R_far (p := ⟨ab, 1, none⟩) (Kd.R_far (p := ⟨ab, 0, none⟩) (Kd.R_far (p := ⟨ac, 6, none⟩) (Kd.R_far (p := ⟨ac, 4, none⟩) (Kd.R_far (p := ⟨ac, 3, none⟩) (Kd.R_types (Kd.R_types HO344.out aa.out (by decide)) ad.out (by decide)) (fun _ hk => hk.1.2) (.slice an t339.length ao)) (fun _ hk => hk.1.2) (.slice ax t342.length ay)) (fun _ hk => hk.1.2) (.slice Ao15 t345.length co15)) (fun _ hk => hk.2) (.int .i64 ae)) (fun _ hk => hk.2) (.int .i64 af)) (fun _ hk => hk.2) (.int .i64 ag)) (fun _ hk => hk.2) (.slice an t339.length ao)) (fun _ hk => hk.2) (.slice ax t342.length ay)) (fun _ hk => hk.2) (.int .i64 ak)) (fun _ hk => hk.2) (.slice Ao15 t345.length co15)) (fun _ hk => trivial), by (with_reducible repeat (first | apply Kd.R_alloc | apply Kd.R_drewN | apply Kd.R_drew)); exact Kd.R_mono (Kd.R_far (p := ⟨ab, 6, none⟩) (Kd.R_far (p := ⟨ab, 5, none⟩) (Kd.R_far (p := ⟨ab, 4, none⟩) (Kd.R_far (p := ⟨ab, 3, none⟩) (Kd.R_far (p := ⟨ab, 2, none⟩) (Kd.R_far (p := ⟨ab, 1, none⟩) (Kd.R_far (p := ⟨ab, 0, none⟩) (Kd.R_far (p := ⟨ac, 6, none⟩) (Kd.R_far (p := ⟨ac, 4, none⟩) (Kd.R_far (p := ⟨ac, 3, none⟩) (Kd.R_types (Kd.R_types HO347.out aa.out (by decide)) ad.out (by decide)) (fun _ hk => hk.1.2) (.slice an t339.length ao)) (fun _ hk => hk.1.2) (.slice ax t342.length ay)) (fun _ hk => hk.1.2) (.slice Ao15 t345.length co15)) (fun _ hk => hk.2) (.int .i64 ae)) (fun _ hk => hk.2) (.int .i64 af)) (fun _ hk => hk.2) (.int .i64 ag)) (fun _ hk => hk.2) (.slice an t339.length ao)) (fun _ hk => hk.2) (.slice ax t342.length ay)) (fun _ hk => hk.2) (.int .i64 ak)) (fun _ hk => hk.2) (.slice Ao15 t345.length co15)) (fun _ hk => hk.1.1.2), by repeat (first | (with_reducible first | exact HB.out | apply below_alloc | apply pw_below_drewN | apply below_drew1 | refine below_set ?_ ah.out | refine below_set ?_ GE338.out) | exact HB.out)⟩

def api_Comm_77.f (l0 : List S63) : Option (List S63) := if l0.length * 16 ≤ 140737488355328 then some l0 else none
theorem api_Comm_77.info : (Try.prog.info? 63).map (fun i => (i.zero, i.size, i.bytes)) = some (some (.agg #[.int .i64 0, .int .i64 0]), 2, 16) := by kernel_rfl
set_option maxHeartbeats 1000000 in
set_option maxRecDepth 100000 in
theorem api_Comm_77.calls (A0 : Option Addr) (c0 : Nat) (l0 : List S63) (r : List S63) (w : World) (hr0 : Kd.C k63 w A0 l0.length l0) (hc0 : l0.length ≤ c0) (h : api_Comm_77.f l0 = some r) :
    Calls Try.prog 77 #[.slice A0 l0.length c0] w fun e w' => ∃ v0_ : Value, e = .returned v0_ ∧ Kd.R k63 63 w' w.heap.size (fun _ => True) v0_ r ∧ Below w.heap.size w w' := by
  unfold api_Comm_77.f at h
  split at h
  · rename_i hb
    obtain rfl := Option.some.inj h
    have HR := mkHid hr0
    obtain ⟨i0, hi, hz0, hz1, hz2⟩ := info_parts api_Comm_77.info
    cases A0 with
    | none =>
      have h0 : l0.length = 0 := by
        rcases Nat.eq_zero_or_pos l0.length with h0 | h0
        · exact h0
        · obtain ⟨ad, e, _⟩ := hr0.2.2 h0
          cases e
      have e0 : l0 = [] := List.length_eq_zero_iff.1 h0
      subst e0
      have hq := fun W => Lib.run_eql_slice_nil (P := Try.prog) W 28 63 none 0 c0 0 0 Try.underlying28
      clear h hr0 hi hz0 hz1 hz2 h0
      go_enter Try.func77, Try.ntmps77
      go_wp2_with fail
      go_ret
      exact ⟨_, rfl, Kd.R_nil _ _ _ _ _, Below.refl _ _⟩
    | some ad =>
      obtain ⟨inner, hrep, hcell⟩ := ReadsRow.inner_ hr0
      have hlen := mkHid hrep.1
      have hone := Reps.one_ hrep (by decide)
      have HRep := mkHid hrep
      have HCell := mkHid hcell
      have hm : l0.length ≤ 9223372036854775807 := Kd.C_max hr0
      have hnew : ∀ W : World, (W.alloc (.cells #[] 63)).ownsRow W.heap.size 63 2 (.slice (some ⟨W.heap.size, 0, none⟩) 0 0) 0 [] := fun W => ⟨by simp, .inr ⟨W.heap.size, 0, #[], rfl, Nat.le_refl _, heap_alloc_new W _, Nat.le_refl _, by unfold maxLen; omega, by simp, by simp⟩⟩
      have HNew := mkHid hnew
      have HOne := mkHid hone
      have hq := fun W => Lib.run_eql_slice_nil (P := Try.prog) W 28 63 (some ad) l0.length c0 0 0 Try.underlying28
      clear h hr0 hrep hcell hone hnew
      go_enter Try.func77, Try.ntmps77
      go_wp2_with (at_builtin; refine wpList_append_own _ rfl _ _ 28 rfl w.heap.size 63 i0 _ 2 16 Try.underlying28 hi hz0 hz1 hz2 rfl (by decide) _ _ _ rfl (HNew.out w) ad l0.length c0 inner rfl hlen.out (fun j u hu => by rw [World.cell?_alloc_lt _ _ _ (World.block_lt_of_cell? _ _ (HCell.out j u hu))]; exact HCell.out j u hu) HOne.out (by unfold maxLen; omega) (by omega) (by simp) ?_; intro v' w1 hown1 hgrow _)
      rw [Nat.zero_add, List.nil_append] at hown1
      have HO := mkHid hown1
      have HG := mkHid hgrow
      clear hown1 hgrow
      go_wp2_with fail
      go_ret
      refine ⟨_, rfl, flat_own (fun h w1 b ok => by have e := k63_open h; subst e; exact k63_mkM w1 b ok _) HO.out rfl HRep.out, ?_⟩
      exact (((Below.refl _ _).alloc (Nat.le_refl _) _).grown HG.out (by simp) (fun k hk => by cases hk; exact Nat.le_refl _))
  · exact absurd h (by simp)

def api_Comm_95.l0 : Nat → List (S63) → Int → Int → Int → Int → Option (Int)
  | 0, _, _, _, _, _ => none
  | k + 1, x0, x7, x8, x349000, x349001 => if x8 < x7 then (if 0 ≤ x8 then (if x8 < (x0.length : Int) then (if (x349000 == ((rd_T63 x0 x8).f0) && (x349001 == ((rd_T63 x0 x8).f1))) = true then (some x8) else (api_Comm_95.l0 k x0 x7 (wrap64 (x8 + 1)) x349000 x349001)) else (none)) else (none)) else (some (-1))
def api_Comm_95.f (k : Nat) (l0 : List (S63)) (a1_0 : Int) (a1_1 : Int) : Option (Int) := api_Comm_95.l0 k l0 (l0.length : Int) 0 a1_0 a1_1
set_option maxHeartbeats 8000000 in
set_option maxRecDepth 100000 in
theorem api_Comm_95.calls (k : Nat) (A0 : Option Addr) (c0 : Nat) (l0 : List (S63)) (a1_0 : Int) (a1_1 : Int) (r : Int) (w : World) (hr0 : Kd.C k63 w A0 l0.length l0) (hc0 : l0.length ≤ c0) (h : api_Comm_95.f k l0 a1_0 a1_1 = some r) :
    Calls Try.prog 95 #[.slice A0 l0.length c0, .agg #[.int .i64 a1_0, .int .i64 a1_1]] w fun e w' => e = .returned (.int .i64 r) ∧ Below w.heap.size w w' := by
  have hu63 := Try.underlying63
  have HR0 := Aside0.mk hr0
  have HC0 := Aside0.mk hc0
  clear hr0 hc0
  have HB := Aside0.mk (Below.refl w.heap.size w)
  have H : (api_Comm_95.l0 k l0 (l0.length : Int) 0 a1_0 a1_1) = some r := h
  clear h
  have H' := Aside0.mk H
  clear H
  go_enter Try.func95, Try.ntmps95
  go_wp2_with (first | ((with_reducible refine gate_dst (N := 3) rfl ?_); refine box_event ?hg (N := 3) ?hd (cs := #[.int .i64 a1_0, .int .i64 a1_1]) (t := 63) ?hr ?_; (case hd => rfl); (case hg => rfl); (case hr => first | (go_simp; done) | (go_simp; rfl)); intro gb348 hg w3 hbox hb; have n0_ := Aside0.mk (below_step (by repeat (first | (with_reducible first | exact HB.out | apply below_alloc | apply pw_below_drewN | apply below_drew1) | exact HB.out)) hb); have n1_ := Aside0.mk (hbox); have n2_ := Aside0.mk ((by rw [hg]; exact (below_size (by repeat (first | (with_reducible first | exact HB.out | apply below_alloc | apply pw_below_drewN | apply below_drew1) | exact HB.out))) : w.heap.size ≤ gb348)); have n3_ := Aside0.mk ((by rw [hg]; exact (below_size (by repeat (first | (with_reducible first | exact HB.out | apply below_alloc | apply pw_below_drewN | apply below_drew1) | exact HB.out))) : w.heap.size ≤ gb348)); clear HB; have HB := n0_; have BK348 := n1_; have GW348 := n2_; have GE348 := n3_; clear n0_ n1_ n2_ n3_; clear hb hbox hg))
  repeat (go_quiet (first | ((with_reducible refine gate_dst (N := 3) rfl ?_); refine box_event ?hg (N := 3) ?hd (cs := #[.int .i64 a1_0, .int .i64 a1_1]) (t := 63) ?hr ?_; (case hd => rfl); (case hg => rfl); (case hr => first | (go_simp; done) | (go_simp; rfl)); intro gb348 hg w3 hbox hb; have n0_ := Aside0.mk (below_step (by repeat (first | (with_reducible first | exact HB.out | apply below_alloc | apply pw_below_drewN | apply below_drew1) | exact HB.out)) hb); have n1_ := Aside0.mk (hbox); have n2_ := Aside0.mk ((by rw [hg]; exact (below_size (by repeat (first | (with_reducible first | exact HB.out | apply below_alloc | apply pw_below_drewN | apply below_drew1) | exact HB.out))) : w.heap.size ≤ gb348)); have n3_ := Aside0.mk ((by rw [hg]; exact (below_size (by repeat (first | (with_reducible first | exact HB.out | apply below_alloc | apply pw_below_drewN | apply below_drew1) | exact HB.out))) : w.heap.size ≤ gb348)); clear HB; have HB := n0_; have BK348 := n1_; have GW348 := n2_; have GE348 := n3_; clear n0_ n1_ n2_ n3_; clear hb hbox hg)); try go_wp2_with (first | ((with_reducible refine gate_dst (N := 3) rfl ?_); refine box_event ?hg (N := 3) ?hd (cs := #[.int .i64 a1_0, .int .i64 a1_1]) (t := 63) ?hr ?_; (case hd => rfl); (case hg => rfl); (case hr => first | (go_simp; done) | (go_simp; rfl)); intro gb348 hg w3 hbox hb; have n0_ := Aside0.mk (below_step (by repeat (first | (with_reducible first | exact HB.out | apply below_alloc | apply pw_below_drewN | apply below_drew1) | exact HB.out)) hb); have n1_ := Aside0.mk (hbox); have n2_ := Aside0.mk ((by rw [hg]; exact (below_size (by repeat (first | (with_reducible first | exact HB.out | apply below_alloc | apply pw_below_drewN | apply below_drew1) | exact HB.out))) : w.heap.size ≤ gb348)); have n3_ := Aside0.mk ((by rw [hg]; exact (below_size (by repeat (first | (with_reducible first | exact HB.out | apply below_alloc | apply pw_below_drewN | apply below_drew1) | exact HB.out))) : w.heap.size ≤ gb348)); clear HB; have HB := n0_; have BK348 := n1_; have GW348 := n2_; have GE348 := n3_; clear n0_ n1_ n2_ n3_; clear hb hbox hg)))
  go_loopg [8] k (fun kq v8 w' => ∃ (x8_1 : Int), v8 = .int .i64 x8_1 ∧ Aside0 (api_Comm_95.l0 kq l0 (l0.length : Int) x8_1 a1_0 a1_1 = some r) ∧ Aside0 (kq ≤ k) ∧ Aside0 (w'.heap[gb348]? = some (.cells #[.int .i64 a1_0, .int .i64 a1_1] 63 (0, 0))) ∧ Aside0 (Below w.heap.size w w'))
  case atStart => exact ⟨(0), (by first | rfl | (simp; done) | (simp [*]; done)), H', ⟨Nat.le_refl _⟩, ⟨by (with_reducible repeat (first | refine blk_drewN ?_ _ | refine blk_drew ?_ | refine blk_alloc ?_ _)); exact BK348.out⟩, ⟨by repeat (first | (with_reducible first | exact HB.out | apply below_alloc | apply pw_below_drewN | apply below_drew1 | refine below_set ?_ GE348.out) | exact HB.out)⟩⟩
  case round =>
    clear H'
    try clear p2
    obtain ⟨x8_1, rfl, HA, HK1, BK348, HB⟩ := hrel
    cases gk with
    | zero => exact absurd HA.out (by simp [api_Comm_95.l0])
    | succ k1 =>
      have H := HA.out
      clear HA
      simp only [api_Comm_95.l0] at H
      by_cases c4 : x8_1 < (l0.length : Int)
      · rw [if_pos c4] at H
        have c4b0 : decide (x8_1 < (l0.length : Int)) = true := decide_eq_true c4
        clear c4
        by_cases c5 : 0 ≤ x8_1
        · rw [if_pos c5] at H
          have c5b0 : decide (0 ≤ x8_1) = true := decide_eq_true c5
          clear c5
          by_cases c6 : x8_1 < (l0.length : Int)
          · rw [if_pos c6] at H
            have c6b0 : decide (x8_1 < (l0.length : Int)) = true := decide_eq_true c6
            clear c6
            by_cases c7 : (a1_0 == ((rd_T63 l0 x8_1).f0) && (a1_1 == ((rd_T63 l0 x8_1).f1))) = true
            · rw [if_pos c7] at H
              have c7b0 : (a1_0 == ((rd_T63 l0 x8_1).f0) && (a1_1 == ((rd_T63 l0 x8_1).f1))) = true := c7
              (try (have c7b1 : decide (a1_0 = ((rd_T63 l0 x8_1).f0) && (a1_1 == ((rd_T63 l0 x8_1).f1))) = true := by simpa using c7))
              (try (have c7b2 : (a1_0 == ((rd_T63 l0 x8_1).f0) && (a1_1 == ((rd_T63 l0 x8_1).f1))) = true := by simpa using c7))
              clear c7
              obtain rfl := Option.some.inj H
              have hcz8_0 : wr.cell? ⟨gb348, 0, none⟩ = some (.int .i64 a1_0) := (blk_cell BK348.out 0).trans rfl
              have hcz8_1 : wr.cell? ⟨gb348, 1, none⟩ = some (.int .i64 a1_1) := (blk_cell BK348.out 1).trans rfl
              have hfz8_0 := blk_frozen BK348.out 0
              have hfz8_1 := blk_frozen BK348.out 1
              have p349 : 0 ≤ (x8_1 : Int) := of_decide_eq_true (by first | (with_reducible assumption) | assumption)
              have q349 : x8_1 < (l0.length : Int) := of_decide_eq_true (by first | (with_reducible assumption) | assumption)
              obtain ⟨ad349, e349, hx349_0, hx349_1⟩ := at_T63 HR0.out x8_1 p349 q349
              cases e349
              replace hx349_0 := (HB.out.cell (World.block_lt_of_cell? w _ hx349_0)).trans hx349_0
              replace hx349_1 := (HB.out.cell (World.block_lt_of_cell? w _ hx349_1)).trans hx349_1
              replace p349 := eq_true p349
              replace q349 := eq_true q349
              go_wp2
              repeat (go_quiet (fail); try go_wp2)
              go_ret
              exact ⟨by first | rfl | (simp [errW_none, errW_some] <;> rfl) | (simp [*, errW_none, errW_some] <;> rfl), by repeat (first | (with_reducible first | exact HB.out | apply below_alloc | apply pw_below_drewN | apply below_drew1 | refine below_set ?_ GE348.out) | exact HB.out)⟩
            · rw [if_neg c7] at H
              have c7b0 : (a1_0 == ((rd_T63 l0 x8_1).f0) && (a1_1 == ((rd_T63 l0 x8_1).f1))) = false := by simpa using c7
              (try (have c7b1 : decide (a1_0 = ((rd_T63 l0 x8_1).f0) && (a1_1 == ((rd_T63 l0 x8_1).f1))) = false := by simpa using c7))
              (try (have c7b2 : (a1_0 == ((rd_T63 l0 x8_1).f0) && (a1_1 == ((rd_T63 l0 x8_1).f1))) = false := by simpa using c7))
              (try (have c7b3 : ¬ (a1_0 = ((rd_T63 l0 x8_1).f0) && (a1_1 == ((rd_T63 l0 x8_1).f1))) := by simpa using c7))
              clear c7
              have H' := Aside0.mk H
              clear H
              have hcz9_0 : wr.cell? ⟨gb348, 0, none⟩ = some (.int .i64 a1_0) := (blk_cell BK348.out 0).trans rfl
              have hcz9_1 : wr.cell? ⟨gb348, 1, none⟩ = some (.int .i64 a1_1) := (blk_cell BK348.out 1).trans rfl
              have hfz9_0 := blk_frozen BK348.out 0
              have hfz9_1 := blk_frozen BK348.out 1
              have p349 : 0 ≤ (x8_1 : Int) := of_decide_eq_true (by first | (with_reducible assumption) | assumption)
              have q349 : x8_1 < (l0.length : Int) := of_decide_eq_true (by first | (with_reducible assumption) | assumption)
              obtain ⟨ad349, e349, hx349_0, hx349_1⟩ := at_T63 HR0.out x8_1 p349 q349
              cases e349
              replace hx349_0 := (HB.out.cell (World.block_lt_of_cell? w _ hx349_0)).trans hx349_0
              replace hx349_1 := (HB.out.cell (World.block_lt_of_cell? w _ hx349_1)).trans hx349_1
              replace p349 := eq_true p349
              replace q349 := eq_true q349
              go_wp2
              repeat (go_quiet (fail); try go_wp2)
              go_roundg k1
              case measure => have := HK1.out; omega
              case rel => exact ⟨(wrap64 (x8_1 + 1)), (by first | rfl | (simp; done) | (simp [*]; done)), H', ⟨by have := HK1.out; omega⟩, ⟨by (with_reducible repeat (first | refine blk_drewN ?_ _ | refine blk_drew ?_ | refine blk_alloc ?_ _)); exact BK348.out⟩, ⟨by repeat (first | (with_reducible first | exact HB.out | apply below_alloc | apply pw_below_drewN | apply below_drew1 | refine below_set ?_ GE348.out) | exact HB.out)⟩⟩
          · rw [if_neg c6] at H
            exact absurd H (by simp)
        · rw [if_neg c5] at H
          exact absurd H (by simp)
      · rw [if_neg c4] at H
        have c4b0 : decide (x8_1 < (l0.length : Int)) = false := decide_eq_false c4
        clear c4
        obtain rfl := Option.some.inj H
        go_wp2
        repeat (go_quiet (fail); try go_wp2)
        go_ret
        exact ⟨by first | rfl | (simp [errW_none, errW_some] <;> rfl) | (simp [*, errW_none, errW_some] <;> rfl), by repeat (first | (with_reducible first | exact HB.out | apply below_alloc | apply pw_below_drewN | apply below_drew1 | refine below_set ?_ GE348.out) | exact HB.out)⟩

def api_Comm_79.f (k : Nat) (l0 : List (S63)) (a1_0 : Int) (a1_1 : Int) : Option (Bool) := (api_Comm_95.f k l0 a1_0 a1_1).bind fun t351 => (some (decide (t351 ≥ 0)))
set_option maxHeartbeats 8000000 in
set_option maxRecDepth 100000 in
theorem api_Comm_79.calls (k : Nat) (A0 : Option Addr) (c0 : Nat) (l0 : List (S63)) (a1_0 : Int) (a1_1 : Int) (r : Bool) (w : World) (hr0 : Kd.C k63 w A0 l0.length l0) (hc0 : l0.length ≤ c0) (h : api_Comm_79.f k l0 a1_0 a1_1 = some r) :
    Calls Try.prog 79 #[.slice A0 l0.length c0, .agg #[.int .i64 a1_0, .int .i64 a1_1]] w fun e w' => e = .returned (.bool r) ∧ Below w.heap.size w w' := by
  have hu63 := Try.underlying63
  have HR0 := Aside0.mk hr0
  have HC0 := Aside0.mk hc0
  clear hr0 hc0
  have HB := Aside0.mk (Below.refl w.heap.size w)
  have H : ((api_Comm_95.f k l0 a1_0 a1_1).bind fun t351 => (some (decide (t351 ≥ 0)))) = some r := h
  clear h
  replace H := Option.bind_eq_some_iff.mp H
  obtain ⟨t351, A30, H⟩ := H
  replace H : (some (decide (t351 ≥ 0))) = some r := H
  have A3 := Aside0.mk A30
  clear A30
  obtain rfl := Option.some.inj H
  go_enter Try.func79, Try.ntmps79
  go_wp2_with (first | ((with_reducible refine gate_dst (N := 3) rfl ?_); refine box_event ?hg (N := 3) ?hd (cs := #[.int .i64 a1_0, .int .i64 a1_1]) (t := 63) ?hr ?_; (case hd => rfl); (case hg => rfl); (case hr => first | (go_simp; done) | (go_simp; rfl)); intro gb350 hg w4 hbox hb; have n0_ := Aside0.mk (below_step (by repeat (first | (with_reducible first | exact HB.out | apply below_alloc | apply pw_below_drewN | apply below_drew1) | exact HB.out)) hb); have n1_ := Aside0.mk (hbox); have n2_ := Aside0.mk ((by rw [hg]; exact (below_size (by repeat (first | (with_reducible first | exact HB.out | apply below_alloc | apply pw_below_drewN | apply below_drew1) | exact HB.out))) : w.heap.size ≤ gb350)); have n3_ := Aside0.mk ((by rw [hg]; exact (below_size (by repeat (first | (with_reducible first | exact HB.out | apply below_alloc | apply pw_below_drewN | apply below_drew1) | exact HB.out))) : w.heap.size ≤ gb350)); clear HB; have HB := n0_; have BK350 := n1_; have GW350 := n2_; have GE350 := n3_; clear n0_ n1_ n2_ n3_; clear hb hbox hg; have hcz5_0 : w4.cell? ⟨gb350, 0, none⟩ = some (.int .i64 a1_0) := (blk_cell BK350.out 0).trans rfl; have hcz5_1 : w4.cell? ⟨gb350, 1, none⟩ = some (.int .i64 a1_1) := (blk_cell BK350.out 1).trans rfl; have hfz5_0 := blk_frozen BK350.out 0; have hfz5_1 := blk_frozen BK350.out 1) | ((with_reducible refine gate_callee (f := 95) rfl ?_); refine goesL_ (some 7) rfl rfl Try.func95 (by kernel_rfl) rfl #[.slice A0 l0.length c0, .agg #[.int .i64 a1_0, .int .i64 a1_1]] rfl (by (try simp only [List.map_toArray, List.map_cons, List.map_nil]); first | done | rfl | (simp only [List.length_drop, List.length_take]; rfl)) ?_; (with_reducible refine (api_Comm_95.calls k _ _ l0 a1_0 a1_1 t351 _ ?side1 ?side2 A3.out).mono ?_); (case side1 => repeat (first | exact (Kd.C_below HR0.out HB.out) | (with_reducible refine Kd.C_alloc ?_ _) | (with_reducible refine Kd.C_drewN ?_ _) | (with_reducible refine Kd.C_drew ?_))); (case side2 => exact HC0.out); rintro e w6 ⟨rfl, hb⟩; refine ⟨_, rfl, ?_⟩; have n0_ := Aside0.mk (blk_below (g := gb350) (o := .cells #[.int .i64 a1_0, .int .i64 a1_1] 63 (0, 0)) (by (with_reducible repeat (first | refine blk_drewN ?_ _ | refine blk_drew ?_ | refine blk_alloc ?_ _)); exact BK350.out) hb); have n1_ := Aside0.mk (below_step (by repeat (first | (with_reducible first | exact HB.out | apply below_alloc | apply pw_below_drewN | apply below_drew1 | refine below_set ?_ GE350.out) | exact HB.out)) hb); clear BK350; clear HB; have BK350 := n0_; have HB := n1_; clear n0_ n1_; (try clear hb); (try clear hb2); (try clear hk); (try clear hi)))
  go_ret
  exact ⟨by first | rfl | (simp [errW_none, errW_some] <;> rfl) | (simp [*, errW_none, errW_some] <;> rfl), by repeat (first | (with_reducible first | exact HB.out | apply below_alloc | apply pw_below_drewN | apply below_drew1 | refine below_set ?_ GE350.out) | exact HB.out)⟩

end Go.Proofs.Ytnnlbofmlfafhaa.P

end
section
set_option linter.unusedVariables false
set_option linter.unusedSimpArgs false
namespace Go.Proofs.Ytnnlbofmlfafhaa.P
open Go.RowKit Go.Proofs.YtnnlbofmlfafhaaW.PrintWords Go.Proofs.YtnnlbofmlfafhaaW.PrintLast Go.Proofs.YtnnlbofmlfafhaaW.PrintMore

set_option maxHeartbeats 2000000 in
set_option maxRecDepth 100000 in
theorem idx_Comm (fid : Nat) (cap : Array Value) (p : S63 → Bool) (Inv : World → Prop) (hInv : ∀ W W', Inv W → Below W.heap.size W W' → Inv W')
    (hen : ∀ (args : Array Value) (W : World), (callFunc fid args).run Try.prog W = .ok (.enter fid args) W)
    (A : Option Addr) (c : Nat) (l : List S63) (hcl : ∀ x, x ∈ l → ∀ W, Inv W → Calls Try.prog fid (#[.agg #[.int .i64 x.f0, .int .i64 x.f1]] ++ cap) W fun e w' => e = .returned (.bool (p x)) ∧ Below W.heap.size W w')
    (w : World) (hr : Kd.C k63 w A l.length l) (hI : Inv w) :
    Calls Try.prog 86 #[.slice A l.length c, .func (.func fid) #[] cap] w fun e w' => e = .returned (.int .i64 (idxB p l)) ∧ Below w.heap.size w w' := by
  have hlm : l.length ≤ 9223372036854775807 := Kd.C_max hr
  have HC := mkHid hcl
  have HR := mkHid hr
  have HI := mkHid hInv
  have HI0 := mkHid hI
  clear hcl hr hInv hI
  go_enter Try.func86, Try.ntmps86
  go_wp2_with fail
  go_loopg [8] l.length (fun kq v8 wr => ∃ k : Int, v8 = .int .i64 k ∧ 0 ≤ k ∧ k ≤ l.length ∧ Hid (k + kq = l.length) ∧ Hid (∀ (i : Nat) (x : S63), i < k.toNat → l[i]? = some x → p x = false) ∧ Hid (Below w.heap.size w wr))
  case atStart => exact ⟨0, rfl, by omega, by omega, by unfold Hid; omega, fun i x hi => by simp at hi, Below.refl _ _⟩
  case round =>
    obtain ⟨k, rfl, k0, kn, hk, hall, hB⟩ := hrel
    have hk1 := hk.out
    by_cases hkn : k < l.length
    · obtain ⟨x, hx⟩ : ∃ x, l[k.toNat]? = some x := ⟨_, List.getElem?_eq_getElem (h := by omega)⟩
      obtain ⟨g, o, rfl, hg, hcells⟩ := C_at (Kd.C_below HR.out hB.out) (by decide) (by omega)
      obtain ⟨cs, _, hK, hcc⟩ := hcells _ _ hx
      have e := k63_open hK
      replace e : cs = [.int .i64 x.f0, .int .i64 x.f1] := e
      subst e
      have d0 : wr.cell? ⟨g, o + k.toNat * 2 + 0, none⟩ = some (.int .i64 x.f0) := hcc 0 _ rfl
      have d1 : wr.cell? ⟨g, o + k.toNat * 2 + 1, none⟩ = some (.int .i64 x.f1) := hcc 1 _ rfl

      clear hcc hcells hK
      try rw [Nat.add_zero] at d0
      try rw [Nat.mul_one] at d0
      have q1 : decide (k < (l.length : Int)) = true := decide_eq_true hkn
      have hw1 : IntKind.i64.wrap (k + 1) = k + 1 := IntWalk.i64_in _ (by omega)
      have HX := mkHid hx
      have hIr := mkHid (HI.out _ _ HI0.out hB.out)
      clear hx
      cases hpx : p x with
      | true =>
        have HPX := mkHid hpx
        clear hpx
        go_wp2_with fail
        refine (HC.out x (List.mem_of_getElem? HX.out) _ hIr.out).mono ?_
        rintro e w' ⟨rfl, hb⟩
        have HB2 : Hid (Below w.heap.size w w') := below_step hB.out hb
        clear hb
        rw [HPX.out]
        go_wp2_with fail
        go_ret
        refine ⟨?_, HB2.out⟩
        have := idxB_at p l k.toNat x HX.out HPX.out hall.out
        rw [this]
        have e : ((k.toNat : Nat) : Int) = k := by omega
        rw [e]; rfl
      | false =>
        have HPX := mkHid hpx
        clear hpx
        go_wp2_with fail
        refine (HC.out x (List.mem_of_getElem? HX.out) _ hIr.out).mono ?_
        rintro e w' ⟨rfl, hb⟩
        have HB2 : Hid (Below w.heap.size w w') := below_step hB.out hb
        clear hb
        rw [HPX.out]
        go_wp2_with fail
        go_roundg (gk - 1)
        case measure => omega
        case rel =>
          refine ⟨k + 1, rfl, by omega, by omega, by unfold Hid; omega, fun i y hi hy => ?_, HB2.out⟩
          by_cases hik : i < k.toNat
          · exact hall.out i y hik hy
          · have : i = k.toNat := by omega
            subst this
            rw [HX.out] at hy
            cases hy
            exact HPX.out
    · have q1 : decide (k < (l.length : Int)) = false := decide_eq_false (by omega)
      go_wp2_with fail
      go_ret
      refine ⟨?_, hB.out⟩
      rw [idxB_none p l (fun i x hx => hall.out i x (by have := (List.getElem?_eq_some_iff.1 hx).1; omega) hx)]
      rfl

end Go.Proofs.Ytnnlbofmlfafhaa.P

end
section
set_option linter.unusedVariables false
set_option linter.unusedSimpArgs false
namespace Go.Proofs.Ytnnlbofmlfafhaa.P
open Go.RowKit Go.Proofs.YtnnlbofmlfafhaaW.PrintWords Go.Proofs.YtnnlbofmlfafhaaW.PrintLast Go.Proofs.YtnnlbofmlfafhaaW.PrintMore

set_option maxHeartbeats 2000000 in
set_option maxRecDepth 100000 in
theorem con_Comm (fid : Nat) (cap : Array Value) (p : S63 → Bool) (Inv : World → Prop) (hInv : ∀ W W', Inv W → Below W.heap.size W W' → Inv W')
    (hen : ∀ (args : Array Value) (W : World), (callFunc fid args).run Try.prog W = .ok (.enter fid args) W)
    (A : Option Addr) (c : Nat) (l : List S63) (hcl : ∀ x, x ∈ l → ∀ W, Inv W → Calls Try.prog fid (#[.agg #[.int .i64 x.f0, .int .i64 x.f1]] ++ cap) W fun e w' => e = .returned (.bool (p x)) ∧ Below W.heap.size W w')
    (w : World) (hr : Kd.C k63 w A l.length l) (hI : Inv w) :
    Calls Try.prog 57 #[.slice A l.length c, .func (.func fid) #[] cap] w fun e w' => e = .returned (.bool (l.any p)) ∧ Below w.heap.size w w' := by
  have HI := mkHid (idx_Comm fid cap p Inv hInv hen A c l hcl w hr hI)
  clear hcl hr hInv hI hen
  go_enter Try.func57, Try.ntmps57
  go_wp2_with fail
  refine HI.out.mono ?_
  rintro e w' ⟨rfl, hb⟩
  have HB := mkHid hb
  clear hb
  generalize hi : idxB p l = i
  have HE := mkHid hi
  clear hi
  go_wp2_with fail
  go_ret
  refine ⟨?_, HB.out⟩
  rw [← idxB_any p l, HE.out]; rfl
end Go.Proofs.Ytnnlbofmlfafhaa.P

end
section
namespace Go.Proofs.Ytnnlbofmlfafhaa.P
open Go.RowKit Go.Proofs.YtnnlbofmlfafhaaW.PrintWords Go.Proofs.YtnnlbofmlfafhaaW.PrintLast Go.Proofs.YtnnlbofmlfafhaaW.PrintMore
attribute [local go_sem] max2_int min2_int max_two min_two max_three min_three max_four min_four   -- for this text's walks alone
set_option linter.unusedVariables false
set_option linter.unusedSimpArgs false

def attr_Change.may (x : S63) : Bool := decide (1 ≤ x.f0) && (decide (x.f0 ≤ 65535) && (decide (0 ≤ x.f1) && decide (x.f1 ≤ 65535)))
theorem attr_Change.may_is (x : S63) : comm_May.f x.f0 x.f1 = some (attr_Change.may x) := by
  unfold comm_May.f attr_Change.may
  by_cases h1 : x.f0 ≥ 1
  · rw [if_pos h1]
    by_cases h2 : x.f0 ≤ 65535
    · rw [if_pos h2]
      by_cases h3 : x.f1 ≥ 0
      · rw [if_pos h3]; simp [h1, h2, h3]
      · rw [if_neg h3]; simp [h3]
    · rw [if_neg h2]; simp [h2]
  · rw [if_neg h1]; simp [h1]
theorem attr_Change.test (x : S63) (w : World) : Calls Try.prog 55 #[.agg #[.int .i64 x.f0, .int .i64 x.f1]] w fun e w' => e = .returned (.bool (!attr_Change.may x)) ∧ Below w.heap.size w w' := by
  have HM := mkHid (fun W => comm_May.calls x.f0 x.f1 _ W (attr_Change.may_is x))
  go_enter Try.func55, Try.ntmps55
  go_wp2_with fail
  refine (HM.out _).mono ?_
  rintro e w' ⟨rfl, hd⟩
  have HD := mkHid hd
  clear hd
  generalize hg : attr_Change.may x = b
  have HG := mkHid hg
  clear hg
  go_wp2_with fail
  go_ret
  exact ⟨by rw [HG.out]; rfl, below_step (below_alloc (Below.refl _ _) _) HD.out⟩
def attr_Change.inn (n a b : Int) : Bool := decide (a ≤ n) && decide (n ≤ b)
theorem attr_Change.inn_is (n a b : Int) : attr_within.f n a b = some (attr_Change.inn n a b) := by
  unfold attr_within.f attr_Change.inn
  by_cases h : n ≥ a
  · rw [if_pos h]; simp [h]
  · rw [if_neg h]; simp [h]
def attr_Change.is (a0_0 a0_1 a0_2 : Int) (l0_3 l0_4 : List S63) (l0_6 : List Int) : Bool :=
  decide (l0_3.length ≤ 8) && (decide (l0_4.length ≤ 8) && (!(l0_3.any fun c => !attr_Change.may c) && (!(l0_4.any fun c => !attr_Change.may c) && (attr_Change.inn a0_0 (-1) 1048576 && (attr_Change.inn a0_1 (-1) 1048576 && (attr_Change.inn a0_2 (-1) 2 && (decide (l0_6.length ≤ 16) && !(l0_6.any fun n => !asB n))))))))
def attr_Change.f (a0_0 a0_1 a0_2 : Int) (l0_3 l0_4 : List S63) (a0_5 : Bool) (l0_6 : List Int) : Option Bool := some (attr_Change.is a0_0 a0_1 a0_2 l0_3 l0_4 l0_6)
/-- the parts of the change that is boxed -/
def attr_Change.Bx (g : Nat) (a0_0 a0_1 a0_2 : Int) (v3 v4 v6 : Value) (W : World) : Prop := W.cell? ⟨g, 0, none⟩ = some (.int .i64 a0_0) ∧ W.cell? ⟨g, 1, none⟩ = some (.int .i64 a0_1) ∧ W.cell? ⟨g, 2, none⟩ = some (.int .i64 a0_2) ∧ W.cell? ⟨g, 3, none⟩ = some v3 ∧ W.cell? ⟨g, 4, none⟩ = some v4 ∧ W.cell? ⟨g, 6, none⟩ = some v6
theorem attr_Change.Bx_below {g : Nat} {a0_0 a0_1 a0_2 : Int} {v3 v4 v6 : Value} {W W' : World} (h : attr_Change.Bx g a0_0 a0_1 a0_2 v3 v4 v6 W) (hb : Below W.heap.size W W') : attr_Change.Bx g a0_0 a0_1 a0_2 v3 v4 v6 W' :=
  ⟨pw_cell_below hb h.1, pw_cell_below hb h.2.1, pw_cell_below hb h.2.2.1, pw_cell_below hb h.2.2.2.1, pw_cell_below hb h.2.2.2.2.1, pw_cell_below hb h.2.2.2.2.2⟩
set_option maxHeartbeats 8000000 in
set_option maxRecDepth 100000 in
theorem attr_Change.calls (a0_0 a0_1 a0_2 : Int) (A0_3 : Option Addr) (c0_3 : Nat) (l0_3 : List S63) (A0_4 : Option Addr) (c0_4 : Nat) (l0_4 : List S63) (a0_5 : Bool) (A0_6 : Option Addr) (c0_6 : Nat) (l0_6 : List Int) (r : Bool) (w : World) (hr0_3 : Kd.C k63 w A0_3 l0_3.length l0_3) (hc0_3 : l0_3.length ≤ c0_3) (hr0_4 : Kd.C k63 w A0_4 l0_4.length l0_4) (hc0_4 : l0_4.length ≤ c0_4) (hr0_6 : Kd.C (Kd.int .i64) w A0_6 l0_6.length l0_6) (hc0_6 : l0_6.length ≤ c0_6) (h : attr_Change.f a0_0 a0_1 a0_2 l0_3 l0_4 a0_5 l0_6 = some r) :
    Calls Try.prog 23 #[.agg #[.int .i64 a0_0, .int .i64 a0_1, .int .i64 a0_2, .slice A0_3 l0_3.length c0_3, .slice A0_4 l0_4.length c0_4, .bool a0_5, .slice A0_6 l0_6.length c0_6]] w fun e w' => e = .returned (.bool r) ∧ Below w.heap.size w w' := by
  unfold attr_Change.f attr_Change.is at h
  have h := Option.some.inj h
  have HR3 := mkHid hr0_3
  have HR4 := mkHid hr0_4
  have HR6 := mkHid hr0_6
  have HC6 := mkHid hc0_6
  clear hr0_3 hr0_4 hr0_6 hc0_3 hc0_4 hc0_6
  have hWi : ∀ (n a b : Int) (W : World), Calls Try.prog 28 #[.int .i64 n, .int .i64 a, .int .i64 b] W fun e w' => e = .returned (.bool (attr_Change.inn n a b)) ∧ Below W.heap.size W w' := fun n a b W => by
    first | exact (attr_within.calls n a b _ W (attr_Change.inn_is n a b)).mono fun e w' h => ⟨h.1, h.2⟩ | exact (attr_within.calls n a b _ W (attr_Change.inn_is n a b)).mono fun e w' h => ⟨h.1, h.2.below⟩
  have HWI := mkHid hWi
  clear hWi
  by_cases h3 : l0_3.length ≤ 8
  case neg =>
    have q3 : decide ((8 : Int) < (l0_3.length : Int)) = true := decide_eq_true (by omega)
    rw [decide_eq_false h3] at h
    have H := mkHid h
    clear h h3
    go_enter Try.func23, Try.ntmps23
    go_wp2_with fail
    go_ret
    exact ⟨by rw [← H.out]; rfl, below_alloc (Below.refl _ _) _⟩
  have q3 : decide ((8 : Int) < (l0_3.length : Int)) = false := decide_eq_false (by omega)
  rw [decide_eq_true h3, Bool.true_and] at h
  by_cases h4 : l0_4.length ≤ 8
  case neg =>
    have q4 : decide ((8 : Int) < (l0_4.length : Int)) = true := decide_eq_true (by omega)
    rw [decide_eq_false h4] at h
    have H := mkHid h
    clear h h3 h4
    go_enter Try.func23, Try.ntmps23
    go_wp2_with fail
    go_ret
    exact ⟨by rw [← H.out]; rfl, below_alloc (Below.refl _ _) _⟩
  have q4 : decide ((8 : Int) < (l0_4.length : Int)) = false := decide_eq_false (by omega)
  rw [decide_eq_true h4, Bool.true_and] at h
  clear h3 h4
  generalize hb3 : (l0_3.any fun c => !attr_Change.may c) = b3 at h
  generalize hb4 : (l0_4.any fun c => !attr_Change.may c) = b4 at h
  generalize hb6 : (decide (l0_6.length ≤ 16) && !(l0_6.any fun n => !asB n)) = b6 at h
  generalize hi0 : attr_Change.inn a0_0 (-1) 1048576 = i0 at h
  generalize hi1 : attr_Change.inn a0_1 (-1) 1048576 = i1 at h
  generalize hi2 : attr_Change.inn a0_2 (-1) 2 = i2 at h
  have HB3 := mkHid hb3
  have HB4 := mkHid hb4
  have HB6 := mkHid hb6
  have HI0 := mkHid hi0
  have HI1 := mkHid hi1
  have HI2 := mkHid hi2
  clear hb3 hb4 hb6 hi0 hi1 hi2
  have H := mkHid h
  clear h
  go_enter Try.func23, Try.ntmps23
  go_wp2_with fail
  obtain ⟨W, hW⟩ : ∃ W, W = w.alloc (Obj.cells #[.int .i64 a0_0, .int .i64 a0_1, .int .i64 a0_2, .slice A0_3 l0_3.length c0_3, .slice A0_4 l0_4.length c0_4, .bool a0_5, .slice A0_6 l0_6.length c0_6] 37) := ⟨_, rfl⟩
  rw [← hW]
  have HX : Hid (attr_Change.Bx w.heap.size a0_0 a0_1 a0_2 (.slice A0_3 l0_3.length c0_3) (.slice A0_4 l0_4.length c0_4) (.slice A0_6 l0_6.length c0_6) W) := by
    unfold Hid; rw [hW]
    exact ⟨by go_simp, by go_simp, by go_simp, by go_simp, by go_simp, by go_simp⟩
  have HB : Hid (Below w.heap.size w W) := by unfold Hid; rw [hW]; exact below_alloc (Below.refl _ _) _
  clear hW
  refine (con_Comm 55 #[] (fun n => !attr_Change.may n) (fun _ => True) (fun _ _ _ _ => trivial) (fun _ _ => by go_simp) A0_3 c0_3 l0_3 (fun x _ W _ => attr_Change.test x W) W (Kd.C_below HR3.out HB.out) trivial).mono ?_
  rintro e w1 ⟨rfl, hb⟩
  rw [HB3.out]
  have HX1 := mkHid (attr_Change.Bx_below HX.out hb)
  have HB1 := mkHid (below_step HB.out hb)
  clear hb HX HB
  obtain ⟨d0, d1, d2, d3, d4, d6⟩ := HX1.out
  cases b3 with
  | true =>
    go_wp2_with fail
    go_ret
    exact ⟨by rw [← H.out]; rfl, HB1.out⟩
  | false =>
    go_wp2_with fail
    refine (con_Comm 55 #[] (fun n => !attr_Change.may n) (fun _ => True) (fun _ _ _ _ => trivial) (fun _ _ => by go_simp) A0_4 c0_4 l0_4 (fun x _ W _ => attr_Change.test x W) _ (Kd.C_below HR4.out HB1.out) trivial).mono ?_
    rintro e w2 ⟨rfl, hb⟩
    rw [HB4.out]
    have HX2 := mkHid (attr_Change.Bx_below HX1.out hb)
    have HB2 := mkHid (below_step HB1.out hb)
    clear hb HX1 HB1 d0 d1 d2 d3 d4 d6
    obtain ⟨d0, d1, d2, d3, d4, d6⟩ := HX2.out
    cases b4 with
    | true =>
      go_wp2_with fail
      go_ret
      exact ⟨by rw [← H.out]; rfl, HB2.out⟩
    | false =>
      go_wp2_with fail
      refine (HWI.out _ _ _ _).mono ?_
      rintro e w3 ⟨rfl, hb⟩
      rw [HI0.out]
      have HX3 := mkHid (attr_Change.Bx_below HX2.out hb)
      have HB3' := mkHid (below_step HB2.out hb)
      clear hb HX2 HB2 d0 d1 d2 d3 d4 d6
      obtain ⟨d0, d1, d2, d3, d4, d6⟩ := HX3.out
      cases i0 with
      | false =>
        go_wp2_with fail
        go_ret
        exact ⟨by rw [← H.out]; rfl, HB3'.out⟩
      | true =>
        go_wp2_with fail
        refine (HWI.out _ _ _ _).mono ?_
        rintro e w4 ⟨rfl, hb⟩
        rw [HI1.out]
        have HX4 := mkHid (attr_Change.Bx_below HX3.out hb)
        have HB4' := mkHid (below_step HB3'.out hb)
        clear hb HX3 HB3' d0 d1 d2 d3 d4 d6
        obtain ⟨d0, d1, d2, d3, d4, d6⟩ := HX4.out
        cases i1 with
        | false =>
          go_wp2_with fail
          go_ret
          exact ⟨by rw [← H.out]; rfl, HB4'.out⟩
        | true =>
          go_wp2_with fail
          refine (HWI.out _ _ _ _).mono ?_
          rintro e w5 ⟨rfl, hb⟩
          rw [HI2.out]
          have HX5 := mkHid (attr_Change.Bx_below HX4.out hb)
          have HB5 := mkHid (below_step HB4'.out hb)
          clear hb HX4 HB4' d0 d1 d2 d3 d4 d6
          obtain ⟨d0, d1, d2, d3, d4, d6⟩ := HX5.out
          cases i2 with
          | false =>
            go_wp2_with fail
            go_ret
            exact ⟨by rw [← H.out]; rfl, HB5.out⟩
          | true =>
            go_wp2_with fail
            refine (aspath_May.calls A0_6 c0_6 l0_6 b6 _ (Kd.C_below HR6.out HB5.out) HC6.out (by unfold aspath_May.f; rw [HB6.out])).mono ?_
            rintro e w6 ⟨rfl, hb⟩
            have HB6' := mkHid (below_step HB5.out hb)
            clear hb d0 d1 d2 d3 d4 d6
            go_wp2_with fail
            go_ret
            exact ⟨by rw [← H.out]; rfl, HB6'.out⟩

end Go.Proofs.Ytnnlbofmlfafhaa.P

end
section
namespace Go.Proofs.Ytnnlbofmlfafhaa.P
open Go.RowKit Go.Proofs.YtnnlbofmlfafhaaW.PrintWords Go.Proofs.YtnnlbofmlfafhaaW.PrintLast Go.Proofs.YtnnlbofmlfafhaaW.PrintMore
set_option linter.unusedVariables false
set_option linter.unusedSimpArgs false

/-- draws, and new blocks behind -/
def Gr (w w' : World) : Prop := ∃ (q : Nat) (os : Array Obj), w' = Go.Sort.grow (w.drewN q) os
theorem Gr.refl (w : World) : Gr w w := ⟨0, #[], by simp [Go.Sort.grow, World.drewN]⟩
theorem Gr.drewN {w W : World} (h : Gr w W) (n : Nat) : Gr w (W.drewN n) := by
  obtain ⟨q, os, rfl⟩ := h
  exact ⟨q + n, os, by simp [Go.Sort.grow, World.drewN, Nat.add_assoc]⟩
theorem Gr.drew {w W : World} (h : Gr w W) : Gr w W.drew := Gr.drewN h 1
theorem Gr.alloc {w W : World} (h : Gr w W) (o : Obj) : Gr w (W.alloc o) := by
  obtain ⟨q, os, rfl⟩ := h
  exact ⟨q, os ++ #[o], by rw [Go.Sort.alloc_eq_grow, Go.Sort.grow_grow]⟩
theorem C_two (g : Nat) (x y : Int) (w : World) (c0 : w.cell? ⟨g, 0, none⟩ = some (.int .i64 x)) (c1 : w.cell? ⟨g, 1, none⟩ = some (.int .i64 y)) : Kd.C (Kd.int .i64) w (some ⟨g, 0, none⟩) [x, y].length [x, y] := by
  refine ⟨rfl, by simp [maxLen], fun _ => ⟨⟨g, 0, none⟩, rfl, ?_⟩⟩
  intro j z hz
  match j with
  | 0 => simp at hz; subst hz; exact ⟨[.int .i64 x], rfl, rfl, fun i u hu => by match i with | 0 => simp at hu; subst hu; exact c0 | i + 1 => simp at hu⟩
  | 1 => simp at hz; subst hz; exact ⟨[.int .i64 y], rfl, rfl, fun i u hu => by match i with | 0 => simp at hu; subst hu; exact c1 | i + 1 => simp at hu⟩
  | j + 2 => simp at hz
theorem or2_any (g : Nat) (x y : Int) (w : World) (c0 : w.cell? ⟨g, 0, none⟩ = some (.int .i64 x)) (c1 : w.cell? ⟨g, 1, none⟩ = some (.int .i64 y)) :
    Calls Try.prog 30 #[.slice (some ⟨g, 0, none⟩) 2 2] w fun e w' => e = .returned (.int .i64 (orI x y)) ∧ ∃ m, w' = w.drewN m :=
  (cmp_Or_int.calls 4 (some ⟨g, 0, none⟩) 2 [x, y] _ w (C_two g x y w c0 c1) (by simp) (orI_is x y)).mono fun e w' h => ⟨h.1, by obtain ⟨_, m, rfl⟩ := h; exact ⟨m, rfl⟩⟩
theorem cmp_any (a b : Int) (w : World) : Calls Try.prog 31 #[.int .i64 a, .int .i64 b] w fun e w' => e = .returned (.int .i64 (cmpI a b)) ∧ ∃ m, w' = w.drewN m :=
  (cmp_Compare_int.calls a b _ w (cmpI_is a b)).mono fun e w' h => ⟨h.1, by obtain ⟨_, m, rfl⟩ := h; exact ⟨m, rfl⟩⟩
set_option maxHeartbeats 1000000 in
set_option maxRecDepth 100000 in
theorem order_grow (x y : S63) (w : World) :
    Calls Try.prog 63 #[.agg #[.int .i64 x.f0, .int .i64 x.f1], .agg #[.int .i64 y.f0, .int .i64 y.f1]] w fun e w' => e = .returned (.int .i64 (ordC x y)) ∧ Gr w w' := by
  unfold ordC
  obtain ⟨a, n⟩ := x
  obtain ⟨b, m⟩ := y
  go_enter Try.func63, Try.ntmps63
  go_wp2_with fail
  obtain ⟨W, hW⟩ : ∃ W, W = (w.alloc (Obj.cells #[.int .i64 a, .int .i64 n] 63)).alloc (Obj.cells #[.int .i64 b, .int .i64 m] 63) := ⟨_, rfl⟩
  rw [← hW]
  have c0 : W.cell? ⟨w.heap.size, 0, none⟩ = some (.int .i64 a) := by rw [hW]; go_simp
  have c1 : W.cell? ⟨w.heap.size, 1, none⟩ = some (.int .i64 n) := by rw [hW]; go_simp
  have c2 : W.cell? ⟨w.heap.size + 1, 0, none⟩ = some (.int .i64 b) := by rw [hW]; go_simp
  have c3 : W.cell? ⟨w.heap.size + 1, 1, none⟩ = some (.int .i64 m) := by rw [hW]; go_simp
  have HG : Hid (Gr w W) := by
    unfold Hid; rw [hW]
    exact ((Gr.refl _).alloc _).alloc _
  have hsz : W.heap.size = w.heap.size + 2 := by rw [hW]; simp
  clear hW
  go_region_held3 (fun w' => w'.cell? ⟨w.heap.size, 0, none⟩ = some (.int .i64 a) ∧ w'.cell? ⟨w.heap.size, 1, none⟩ = some (.int .i64 n) ∧ w'.cell? ⟨w.heap.size + 1, 0, none⟩ = some (.int .i64 b) ∧ w'.cell? ⟨w.heap.size + 1, 1, none⟩ = some (.int .i64 m)) (go_keep)
    (first | (go_at_call 31; refine (cmp_any _ _ _).mono ?_; rintro e w' ⟨rfl, ⟨nd, rfl⟩⟩) | (go_at_call 30; refine (or2_any _ (cmpI a b) (cmpI n m) _ ?_ ?_).mono ?_; (go_simp); (go_simp); rintro e w' ⟨rfl, ⟨nd, rfl⟩⟩))
  all_goals
    go_wp2_with fail
    go_ret
    exact ⟨rfl, by repeat (first | exact HG.out | apply Gr.drewN | apply Gr.drew | apply Gr.alloc)⟩
end Go.Proofs.Ytnnlbofmlfafhaa.P

end
section
namespace Go.Proofs
open Go.Shelf
def Try.sortX_ren : Go.Shelf.Ren := ⟨fun | 6 => 82 | 15 => 98 | 14 => 97 | 28 => 109 | 29 => 110 | 20 => 101 | 21 => 102 | 22 => 103 | 23 => 104 | 24 => 105 | 25 => 106 | 26 => 107 | 27 => 108 | 46 => 111 | 47 => 112 | 48 => 113 | 49 => 114 | 50 => 115 | 57 => 116 | n => n, fun | 22 => 28 | 24 => 63 | 25 => 69 | 3 => 3 | 39 => 99 | 0 => 0 | 53 => 112 | 55 => 114 | 4 => 4 | 46 => 105 | 45 => 104 | 50 => 109 | 5 => 5 | 9 => 9 | 66 => 115 | 70 => 119 | 76 => 121 | 77 => 122 | n => n, fun | n => n⟩
theorem Try.sortX : Go.Proofs.SlLaysF0.n6 Try.prog Try.sortX_ren := {
  mixed := by kernel_rfl
  f6 := ⟨Try.f82.name, by decide, Try.func82.trans (congrArg some (by kernel_rfl))⟩
  f14 := ⟨Try.f97.name, by decide, Try.func97.trans (congrArg some (by kernel_rfl))⟩
  f15 := Try.func98.trans (congrArg some (by kernel_rfl))
  f20 := ⟨Try.f101.name, by decide, Try.func101.trans (congrArg some (by kernel_rfl))⟩
  f21 := ⟨Try.f102.name, by decide, Try.func102.trans (congrArg some (by kernel_rfl))⟩
  f22 := ⟨Try.f103.name, by decide, Try.func103.trans (congrArg some (by kernel_rfl))⟩
  f23 := ⟨Try.f104.name, by decide, Try.func104.trans (congrArg some (by kernel_rfl))⟩
  f24 := ⟨Try.f105.name, by decide, Try.func105.trans (congrArg some (by kernel_rfl))⟩
  f25 := ⟨Try.f106.name, by decide, Try.func106.trans (congrArg some (by kernel_rfl))⟩
  f26 := ⟨Try.f107.name, by decide, Try.func107.trans (congrArg some (by kernel_rfl))⟩
  f27 := ⟨Try.f108.name, by decide, Try.func108.trans (congrArg some (by kernel_rfl))⟩
  f28 := Try.func109.trans (congrArg some (by kernel_rfl))
  f29 := Try.func110.trans (congrArg some (by kernel_rfl))
  f46 := ⟨Try.f111.name, by decide, Try.func111.trans (congrArg some (by kernel_rfl))⟩
  f47 := Try.func112.trans (congrArg some (by kernel_rfl))
  f48 := Try.func113.trans (congrArg some (by kernel_rfl))
  f49 := ⟨Try.f114.name, by decide, Try.func114.trans (congrArg some (by kernel_rfl))⟩
  f50 := ⟨Try.f115.name, by decide, Try.func115.trans (congrArg some (by kernel_rfl))⟩
  f57 := ⟨Try.f116.name, by decide, Try.func116.trans (congrArg some (by kernel_rfl))⟩
  t0 := Try.underlying0
  a0 := Try.isAgg0
  z0 := Try.sizeOf0
  v0 := Try.zeroValue0
  t3 := Try.underlying3
  a3 := Try.isAgg3
  z3 := Try.sizeOf3
  v3 := Try.zeroValue3
  t4 := Try.underlying4
  a4 := Try.isAgg4
  z4 := Try.sizeOf4
  v4 := Try.zeroValue4
  t5 := Try.underlying5
  a5 := Try.isAgg5
  z5 := Try.sizeOf5
  v5 := Try.zeroValue5
  t9 := Try.underlying9
  a9 := Try.isAgg9
  z9 := Try.sizeOf9
  v9 := Try.zeroValue9
  t22 := Try.underlying28
  a22 := Try.isAgg28
  z22 := Try.sizeOf28
  v22 := Try.zeroValue28
  t25 := Try.underlying69
  a25 := Try.isAgg69
  z25 := Try.sizeOf69
  v25 := Try.zeroValue69
  t39 := Try.underlying99
  a39 := Try.isAgg99
  z39 := Try.sizeOf99
  v39 := Try.zeroValue99
  t45 := Try.underlying104
  a45 := Try.isAgg104
  z45 := Try.sizeOf104
  v45 := Try.zeroValue104
  t46 := Try.underlying105
  a46 := Try.isAgg105
  z46 := Try.sizeOf105
  v46 := Try.zeroValue105
  t50 := Try.underlying109
  a50 := Try.isAgg109
  z50 := Try.sizeOf109
  v50 := Try.zeroValue109
  t53 := Try.underlying112
  a53 := Try.isAgg112
  z53 := Try.sizeOf112
  v53 := Try.zeroValue112
  t55 := Try.underlying114
  a55 := Try.isAgg114
  z55 := Try.sizeOf114
  v55 := Try.zeroValue114
  t66 := Try.underlying115
  a66 := Try.isAgg115
  z66 := Try.sizeOf115
  v66 := Try.zeroValue115
  t70 := Try.underlying119
  a70 := Try.isAgg119
  z70 := Try.sizeOf119
  v70 := Try.zeroValue119
  t76 := Try.underlying121
  a76 := Try.isAgg121
  z76 := Try.sizeOf121
  v76 := Try.zeroValue121
  t77 := Try.underlying122
  a77 := Try.isAgg122
  z77 := Try.sizeOf122
  v77 := Try.zeroValue122 }
end Go.Proofs

end
section
set_option linter.unusedVariables false
set_option linter.unusedSimpArgs false
namespace Go.Proofs.Ytnnlbofmlfafhaa
open Go.RowKit Go.Proofs.YtnnlbofmlfafhaaW.PrintWords Go.Proofs.YtnnlbofmlfafhaaW.PrintLast Go.Proofs.YtnnlbofmlfafhaaW.PrintMore

/-- with rounds enough, r comes out -/
def Evt {α : Type} (g : Nat → Option α) (r : α) : Prop := ∃ K, ∀ k, K ≤ k → g k = some r
theorem Evt.ex {α : Type} {g : Nat → Option α} {r : α} (h : Evt g r) : ∃ k, g k = some r := h.imp fun K hK => hK K (Nat.le_refl _)
theorem Evt.pure {α : Type} (r : α) : Evt (fun _ => some r) r := ⟨0, fun _ _ => rfl⟩
theorem Evt.of {α : Type} {g : Nat → Option α} {r : α} (h : ∀ k, g k = some r) : Evt g r := ⟨0, fun k _ => h k⟩
theorem Evt.bind {α β : Type} {g : Nat → Option α} {f : Nat → α → Option β} {a : α} {b : β} (h : Evt g a) (h2 : Evt (fun k => f k a) b) : Evt (fun k => (g k).bind (f k)) b := by
  obtain ⟨K, h⟩ := h
  obtain ⟨L, h2⟩ := h2
  exact ⟨max K L, fun k hk => by show (g k).bind (f k) = some b; rw [h k (by omega)]; exact h2 k (by omega)⟩
theorem Evt.bindc {α β : Type} {o : Option α} {f : Nat → α → Option β} {a : α} {b : β} (h : o = some a) (h2 : Evt (fun k => f k a) b) : Evt (fun k => o.bind (f k)) b := by
  subst h; exact h2
theorem Evt.step {α : Type} {g : Nat → Option α} {r : α} (h : Evt (fun k => g (k + 1)) r) : Evt g r := by
  obtain ⟨K, h⟩ := h
  refine ⟨K + 1, fun k hk => ?_⟩
  obtain ⟨k, rfl⟩ : ∃ m, k = m + 1 := ⟨k - 1, by omega⟩
  exact h k (by omega)
theorem Evt.ite_pos {α : Type} {c : Prop} [Decidable c] {x y : Nat → Option α} {r : α} (hc : c) (h : Evt x r) : Evt (fun k => if c then x k else y k) r := by
  simp only [if_pos hc]; exact h
theorem Evt.ite_neg {α : Type} {c : Prop} [Decidable c] {x y : Nat → Option α} {r : α} (hc : ¬ c) (h : Evt y r) : Evt (fun k => if c then x k else y k) r := by
  simp only [if_neg hc]; exact h
theorem Evt.of_mono {α : Type} {g : Nat → Option α} {r : α} {K : Nat} (hm : ∀ k, LeO (g k) (g (k + 1))) (h : g K = some r) : Evt g r := by
  refine ⟨K, fun k hk => ?_⟩
  obtain ⟨d, rfl⟩ : ∃ d, k = K + d := ⟨k - K, by omega⟩
  clear hk
  induction d with
  | zero => exact h
  | succ d ih => exact hm _ _ ih
theorem wrap64_in (x : Int) (h0 : -9223372036854775808 ≤ x) (h1 : x ≤ 9223372036854775807) : wrap64 x = x := by unfold wrap64; omega

end Go.Proofs.Ytnnlbofmlfafhaa

end
section
namespace Go.Proofs.Ytnnlbofmlfafhaa.P
open Go.RowKit Go.Proofs.YtnnlbofmlfafhaaW.PrintWords Go.Proofs.YtnnlbofmlfafhaaW.PrintLast Go.Proofs.YtnnlbofmlfafhaaW.PrintMore
set_option linter.unusedVariables false
set_option linter.unusedSimpArgs false

instance : DecidableEq S63 := fun a b => if h : a.f0 = b.f0 ∧ a.f1 = b.f1 then isTrue (by cases a; cases b; simp_all) else isFalse (by rintro rfl; exact h ⟨rfl, rfl⟩)
/-- an order told by numbers -/
def Ord {α : Type} (c : α → α → Int) : Prop := (∀ a b, c b a = - c a b) ∧ (∀ a b d, c a b ≤ 0 → c b d ≤ 0 → c a d ≤ 0)
theorem Ord.self {α : Type} {c : α → α → Int} (h : Ord c) (a : α) : c a a = 0 := by have := h.1 a a; omega
theorem Ord.zero {α : Type} {c : α → α → Int} (h : Ord c) {a b d : α} (h1 : c a b ≤ 0) (h2 : c b d ≤ 0) (h3 : c a d = 0) : c a b = 0 ∧ c b d = 0 := by
  have e1 := h.1 a d
  have e2 := h.1 a b
  have e3 := h.1 b d
  have t1 := h.2 b d a h2 (by omega)
  have t2 := h.2 d a b (by omega) h1
  constructor <;> omega
theorem Ord.pull {α β : Type} {c : α → α → Int} (h : Ord c) (f : β → α) : Ord (fun a b => c (f a) (f b)) := ⟨fun a b => h.1 _ _, fun a b d => h.2 _ _ _⟩
theorem cmpI_ord : Ord cmpI := by
  refine ⟨fun a b => ?_, fun a b d => ?_⟩
  · unfold cmpI; split <;> split <;> omega
  · unfold cmpI; split <;> split <;> split <;> (try split) <;> (try split) <;> omega
theorem cmpI_zero {a b : Int} : cmpI a b = 0 ↔ a = b := by unfold cmpI; split <;> (try split) <;> omega
theorem orI_ord {α : Type} {c d : α → α → Int} (h : Ord c) (g : Ord d) : Ord (fun a b => orI (c a b) (d a b)) := by
  refine ⟨fun x y => ?_, fun x y z h1 h2 => ?_⟩
  · show orI _ _ = - orI _ _
    unfold orI
    rw [h.1 x y, g.1 x y]
    by_cases e : c x y = 0
    · rw [if_neg (by omega), if_neg (by omega)]
    · rw [if_pos (by omega), if_pos (by omega)]
  · have h1' : orI (c x y) (d x y) ≤ 0 := h1
    have h2' : orI (c y z) (d y z) ≤ 0 := h2
    show orI (c x z) (d x z) ≤ 0
    unfold orI at *
    have p1 : c x y ≤ 0 := by by_cases e : c x y = 0 <;> simp [e] at h1' ⊢ ; exact h1'
    have p2 : c y z ≤ 0 := by by_cases e : c y z = 0 <;> simp [e] at h2' ⊢ ; exact h2'
    have p3 := h.2 x y z p1 p2
    by_cases e : c x z = 0
    · obtain ⟨e1, e2⟩ := h.zero p1 p2 e
      rw [if_neg (by omega)] at h1' h2' ⊢
      exact g.2 x y z h1' h2'
    · rw [if_pos e]; exact p3
theorem orI_zero {a b : Int} : orI a b = 0 ↔ a = 0 ∧ b = 0 := by unfold orI; by_cases h : a = 0 <;> simp [h]
theorem cmpLst_ord {α : Type} {c : α → α → Int} (h : Ord c) : Ord (cmpLst c) := by
  have anti : ∀ a b : List α, cmpLst c b a = - cmpLst c a b := by
    intro a
    induction a with
    | nil => intro b; cases b <;> simp [cmpLst]
    | cons x a ih =>
      intro b
      cases b with
      | nil => simp [cmpLst]
      | cons y b =>
        simp only [cmpLst]
        rw [h.1 x y, ih b]
        by_cases e : c x y = 0
        · rw [if_neg (by omega), if_neg (by omega)]
        · rw [if_pos (by omega), if_pos (by omega)]
  refine ⟨anti, ?_⟩
  intro a
  induction a with
  | nil => intro b d h1 h2; cases d <;> simp [cmpLst]
  | cons x a ih =>
    intro b d h1 h2
    cases b with
    | nil => simp [cmpLst] at h1
    | cons y b =>
      cases d with
      | nil => simp [cmpLst] at h2
      | cons z d =>
        simp only [cmpLst] at h1 h2 ⊢
        have p1 : c x y ≤ 0 := by by_cases e : c x y = 0 <;> simp [e] at h1 ⊢ ; exact h1
        have p2 : c y z ≤ 0 := by by_cases e : c y z = 0 <;> simp [e] at h2 ⊢ ; exact h2
        have p3 := h.2 x y z p1 p2
        by_cases e : c x z = 0
        · obtain ⟨e1, e2⟩ := h.zero p1 p2 e
          rw [if_neg (by omega)] at h1 h2 ⊢
          exact ih b d h1 h2
        · rw [if_pos e]; exact p3
theorem ordC_ord : Ord ordC := orI_ord (cmpI_ord.pull (fun x : S63 => x.f0)) (cmpI_ord.pull (fun x : S63 => x.f1))
theorem ordC_zero (a b : S63) : ordC a b = 0 ↔ a = b := by
  unfold ordC
  rw [orI_zero, cmpI_zero, cmpI_zero]
  cases a; cases b; simp
theorem cmpCL_ord : Ord cmpCL := orI_ord (cmpI_ord.pull (fun l : List S63 => (l.length : Int))) (cmpLst_ord ordC_ord)
end Go.Proofs.Ytnnlbofmlfafhaa.P

end
section
namespace Go.Proofs.Ytnnlbofmlfafhaa.P
open Go.RowKit Go.Sort Go.Proofs.YtnnlbofmlfafhaaW.PrintWords Go.Proofs.YtnnlbofmlfafhaaW.PrintLast Go.Proofs.YtnnlbofmlfafhaaW.PrintMore
set_option linter.unusedVariables false
set_option linter.unusedSimpArgs false

def encC (x : S63) : List Value := [.int .i64 x.f0, .int .i64 x.f1]
instance : Inhabited S63 := ⟨⟨0, 0⟩⟩
/-- the cells of an own row -/
theorem own_cells {w : World} {base g n cap : Nat} {ok : Nat → Prop} {l : List S63} (h : Kd.R k63 63 w base ok (.slice (some ⟨g, 0, none⟩) n cap) l) :
    ∃ cur : Array Value, w.heap[g]? = some (.cells cur 63 (0, 0)) ∧ cur.size = cap * 2 ∧ n = l.length ∧ n ≤ cap ∧ cap ≤ maxLen ∧ base ≤ g ∧ ok g ∧
      ∀ (j : Nat) (x : S63), l[j]? = some x → ∀ (i : Nat) (u : Value), (encC x)[i]? = some u → cur.toList[j * 2 + i]? = some u := by
  obtain ⟨h0, inner, ⟨hl, hr⟩, hrep⟩ := h
  rcases hr with ⟨he, _⟩ | ⟨g', cap', cur, he, hb, hh, hn, hm, hs, ht⟩
  · cases he
  · injection he with e1 e2 e3
    injection e1 with e1
    injection e1 with e1
    subst e1; subst e2; subst e3
    refine ⟨cur, hh, hs, rfl, hn, hm, hb, h0 _ rfl, ?_⟩
    intro j x hx i u hu
    have e : (inner.drop (j * 2)).take 2 = encC x := k63_openM (hrep.2 j x hx)
    have hi3 : i < 2 := (List.getElem?_eq_some_iff.1 hu).1
    have this : inner[j * 2 + i]? = some u := by
      rw [← e, List.getElem?_take_of_lt hi3, List.getElem?_drop] at hu
      exact hu
    have ht' : cur.toList.take (l.length * 2) = inner := ht
    rw [← ht'] at this
    have hi : j * 2 + i < l.length * 2 := by
      have h1 : j < l.length := (List.getElem?_eq_some_iff.1 hx).1
      have h2 : i < (encC x).length := (List.getElem?_eq_some_iff.1 hu).1
      have h3 : (encC x).length = 2 := rfl
      rw [h3] at h2
      omega
    rwa [List.getElem?_take_of_lt hi] at this
theorem own_of_cells {w : World} {base g cap : Nat} {ok : Nat → Prop} {l : List S63} {cur : Array Value} (hh : w.heap[g]? = some (.cells cur 63 (0, 0))) (hs : cur.size = cap * 2) (hn : l.length ≤ cap) (hm : cap ≤ maxLen) (hb : base ≤ g) (hok : ok g)
    (hc : ∀ (j : Nat) (x : S63), l[j]? = some x → ∀ (i : Nat) (u : Value), (encC x)[i]? = some u → cur.toList[j * 2 + i]? = some u) :
    Kd.R k63 63 w base ok (.slice (some ⟨g, 0, none⟩) l.length cap) l := by
  have hsl : cur.toList.length = cap * 2 := by rw [Array.length_toList]; exact hs
  refine ⟨fun k hk => by simp [Value.ownBlock] at hk; subst hk; exact hok, cur.toList.take (l.length * 2), ⟨?_, .inr ⟨g, cap, cur, rfl, hb, hh, hn, hm, hs, rfl⟩⟩, ?_⟩
  · rw [List.length_take, hsl]
    show min (l.length * 2) (cap * 2) = l.length * 2
    omega
  · refine ⟨?_, ?_⟩
    · rw [List.length_take, hsl]
      show min (l.length * 2) (cap * 2) = l.length * 2
      omega
    · intro j x hx
      have e : ((cur.toList.take (l.length * 2)).drop (j * 2)).take 2 = encC x := by
        have h1 : j < l.length := (List.getElem?_eq_some_iff.1 hx).1
        apply List.ext_getElem?
        intro i
        by_cases hi : i < 2
        · rw [List.getElem?_take_of_lt hi, List.getElem?_drop, List.getElem?_take_of_lt (by omega)]
          have h2 : i < (encC x).length := hi
          rw [List.getElem?_eq_getElem h2]
          exact hc j x hx i _ (List.getElem?_eq_getElem h2)
        · rw [List.getElem?_eq_none (by rw [List.length_take]; omega), List.getElem?_eq_none (by show (encC x).length ≤ i; have : (encC x).length = 2 := rfl; omega)]
      show Kd.M k63 _ _ _ x (((cur.toList.take (l.length * 2)).drop (j * 2)).take 2)
      rw [e]
      exact k63_mkM _ _ _ _
def sortC (l : List S63) : List S63 := l.mergeSort fun x y => !(ltOf ordC) y x
theorem ordC_swo : SWO (ltOf ordC) := by
  refine ⟨fun x => ?_, fun x y z h1 h2 => ?_, fun x y z h1 h2 => ?_⟩
  · unfold ltOf; rw [ordC_ord.self]; rfl
  · unfold ltOf at *
    have h1 := of_decide_eq_true h1
    have h2 := of_decide_eq_true h2
    have h3 := ordC_ord.2 x y z (by omega) (by omega)
    have h4 := ordC_ord.zero (a := x) (b := y) (d := z) (by omega) (by omega)
    exact decide_eq_true (by omega)
  · unfold ltOf at *
    have h1 := of_decide_eq_false h1
    have h2 := of_decide_eq_false h2
    have e1 := ordC_ord.1 x y
    have e2 := ordC_ord.1 y z
    have e3 := ordC_ord.1 x z
    have h3 := ordC_ord.2 z y x (by omega) (by omega)
    exact decide_eq_false (by omega)
set_option maxHeartbeats 1000000 in
theorem sort_comm (v : Value) (l : List S63) (base : Nat) (w : World) (HR : Kd.R k63 63 w base (fun _ => True) v l) (hl : l.length ≤ 1000000) :
    Calls Try.prog 82 #[v, .func (.func 63) #[] #[]] w fun e w' => e = .returned (.tuple #[]) ∧ Kd.R k63 63 w' base (fun _ => True) v (sortC l) ∧ Below base w w' := by
  have hnil : ∀ (p : Option Addr) (cap : Nat), v = .slice p 0 cap → l = [] → Calls Try.prog 82 #[v, .func (.func 63) #[] #[]] w fun e w' => e = .returned (.tuple #[]) ∧ Kd.R k63 63 w' base (fun _ => True) v (sortC l) ∧ Below base w w' := by
    intro p cap hv e0
    subst hv
    refine (Go.Proofs.AnyF.slices_SortFunc_none Try.sortX p cap _ w).mono ?_
    rintro e w' ⟨rfl, rfl⟩
    refine ⟨rfl, ?_, Below.refl _ _⟩
    subst e0
    rw [show sortC [] = [] from by simp [sortC]]
    exact HR
  obtain ⟨p, cap, hv⟩ := Kd.R_slice HR
  by_cases h0 : l = []
  · exact hnil p cap (by rw [hv, h0]; rfl) h0
  · have hpos : 0 < l.length := List.length_pos_iff.2 h0
    obtain ⟨g, hg⟩ : ∃ g, p = some ⟨g, 0, none⟩ := by
      obtain ⟨_, inner, ⟨_, hr⟩, _⟩ := HR
      rcases hr with ⟨he, hz⟩ | ⟨g, cap', cur, he, _⟩
      · omega
      · rw [hv] at he
        injection he with e1
        exact ⟨g, e1⟩
    subst hg
    subst hv
    obtain ⟨cur, hh, hs, _, hn, hm, hb, _, hc⟩ := own_cells HR
    have hH : HoldsK encC 2 w g 0 l.toArray := by
      intro t ht
      rw [size_flatK] at ht
      have ht2 : t < l.length * 2 := by simpa using ht
      rw [get_flatK _ _ _ _ (by simpa using ht2)]
      have hj : t / 2 < l.length := by omega
      have hx : l[t / 2]? = some l.toArray[t / 2]! := by simp [hj]
      have hi : t % 2 < (encC l.toArray[t / 2]!).length := Nat.mod_lt _ (by decide)
      have hu : (encC l.toArray[t / 2]!)[t % 2]? = some (encC l.toArray[t / 2]!)[t % 2]! := by rw [List.getElem?_eq_getElem hi, getElem!_pos (encC l.toArray[t / 2]!) (t % 2) hi]
      have hcell := hc _ _ hx _ _ hu
      rw [show t / 2 * 2 + t % 2 = t by omega] at hcell
      rw [Nat.zero_add]
      refine ⟨?_, by simp [World.frozen?, hh]⟩
      rw [cell_of_row w g t cur _ (0, 0) hh, ← Array.getElem?_toList]
      exact hcell
    have hblk : g < w.heap.size := by
      rcases Nat.lt_or_ge g w.heap.size with h | h
      · exact h
      · rw [Array.getElem?_eq_none h] at hh; cases hh
    refine (Go.Proofs.AnyQ.slices_SortFunc_total Try.sortX 2 Try.isAgg63 Try.sizeOf63 encC (fun _ => rfl) (fun x u hu => by simp [encC] at hu; rcases hu with rfl | rfl <;> rfl) ordC ordC_swo 63 #[] g 0 cap l.toArray w (fun _ _ => by go_simp)
      (fun m os dk _ x y => (order_grow x y _).mono fun e w' h => h) hH hblk (by simp; omega) (fun x y h1 h2 => ?_)).mono ?_
    · unfold ltOf at h1 h2
      have h1 := of_decide_eq_false h1
      have h2 := of_decide_eq_false h2
      have e1 := ordC_ord.1 x y
      exact (ordC_zero x y).1 (by omega)
    · rintro e w' ⟨rfl, n, os, rfl⟩
      have hperm : (sortC l).length = l.length := by unfold sortC; exact List.length_mergeSort _
      refine ⟨rfl, ?_, ?_⟩
      · have hH2 := holdsK_sortWorldK_c encC 2 w g 0 l.toArray (sortC l).toArray n os hH hblk (by simp [hperm])
        have hcur2 : ∃ cur2 : Array Value, (sortWorldK encC 2 w g 0 n (sortC l).toArray os).heap[g]? = some (.cells cur2 63 (0, 0)) ∧ cur2.size = cur.size := by
          unfold sortWorldK putRowK
          rw [heap_grow_old _ _ (by rw [size_putRow]; exact hblk)]
          unfold putRow mapBlock
          refine ⟨putCells id 0 (flatK encC 2 (sortC l).toArray) cur, ?_, by simp [putCells]⟩
          show ((Go.Sort.ahead w n).heap.modify g _)[g]? = _
          rw [Array.getElem?_modify]
          show (if g = g then (w.heap[g]?).map _ else _) = _
          rw [if_pos rfl, hh]; rfl
        obtain ⟨cur2, h2, h3⟩ := hcur2
        rw [show l.length = (sortC l).length from hperm.symm]
        refine own_of_cells (l := sortC l) h2 (by rw [h3]; exact hs) (by rw [hperm]; exact hn) hm hb trivial ?_
        intro j x hx i u hu
        have hj : j < (sortC l).toArray.size := by have := (List.getElem?_eq_some_iff.1 hx).1; simpa using this
        have hi : i < 2 := (List.getElem?_eq_some_iff.1 hu).1
        have hcl := (HoldsK.cell hH2 hj hi).1
        rw [Nat.zero_add, cell_of_row _ g _ cur2 _ (0, 0) h2] at hcl
        have ex : (sortC l).toArray[j]! = x := by
          have := (List.getElem?_eq_some_iff.1 hx).2
          rw [getElem!_pos (sortC l).toArray j hj]; simpa using this
        rw [ex] at hcl
        rw [Array.getElem?_toList, hcl]
        have hu2 : i < (encC x).length := hi
        rw [List.getElem?_eq_getElem hu2] at hu
        rw [getElem!_pos (encC x) i hu2]
        exact hu
      · refine ⟨rfl, rfl, rfl, ?_, ?_⟩
        · unfold sortWorldK putRowK
          rw [size_grow, size_putRow]
          show w.heap.size ≤ w.heap.size + os.size
          omega
        · intro k hk
          unfold sortWorldK putRowK
          have hk2 : k < w.heap.size := by omega
          rw [heap_grow_old _ _ (by rw [size_putRow]; exact hk2)]
          unfold putRow mapBlock
          show ((Go.Sort.ahead w n).heap.modify g _)[k]? = _
          rw [Array.getElem?_modify, if_neg (by omega)]; rfl
end Go.Proofs.Ytnnlbofmlfafhaa.P

end
section
namespace Go.Proofs.Ytnnlbofmlfafhaa.P
set_option linter.unusedVariables false
section
variable {α : Type} (q : α → α → Bool)
def ddA (p : α) : List α → List α
  | [] => []
  | y :: l => if q y p then ddA p l else y :: ddA y l
def dd : List α → List α
  | [] => []
  | x :: l => x :: ddA q x l
theorem ddA_snoc (hq : ∀ a b, q a b = true ↔ a = b) : ∀ (l : List α) (p x y : α), (p :: l).getLast? = some y → ddA q p (l ++ [x]) = if q x y then ddA q p l else ddA q p l ++ [x] := by
  intro l
  induction l with
  | nil =>
    intro p x y h
    simp at h
    subst h
    simp only [List.nil_append, ddA]
  | cons z l ih =>
    intro p x y h
    have h' : (z :: l).getLast? = some y := by rw [List.getLast?_cons_cons] at h; exact h
    simp only [List.cons_append, ddA]
    by_cases e : q z p = true
    · rw [if_pos e, if_pos e]
      have ez := (hq _ _).1 e
      subst ez
      exact ih z x y h'
    · rw [if_neg e, if_neg e, ih z x y h']
      split <;> rfl
theorem dd_snoc (hq : ∀ a b, q a b = true ↔ a = b) (l : List α) (x y : α) (h : l.getLast? = some y) : dd q (l ++ [x]) = if q x y then dd q l else dd q l ++ [x] := by
  cases l with
  | nil => simp at h
  | cons p l =>
    simp only [List.cons_append, dd]
    rw [ddA_snoc q hq l p x y h]
    split <;> rfl
theorem dd_take (hq : ∀ a b, q a b = true ↔ a = b) (l : List α) (j : Nat) (x y : α) (hx : l[j]? = some x) (hj : 0 < j) (hy : l[j - 1]? = some y) : dd q (l.take (j + 1)) = if q x y then dd q (l.take j) else dd q (l.take j) ++ [x] := by
  have hl : j < l.length := (List.getElem?_eq_some_iff.1 hx).1
  rw [List.take_add_one, hx]
  refine dd_snoc q hq _ x y ?_
  rw [List.getLast?_eq_getElem?, List.length_take, Nat.min_eq_left (by omega), List.getElem?_take_of_lt (by omega), hy]
theorem dd_one (l : List α) (h : l.length ≤ 1) : dd q l = l := by
  cases l with
  | nil => rfl
  | cons x l =>
    cases l with
    | nil => rfl
    | cons y l => simp at h
end
end Go.Proofs.Ytnnlbofmlfafhaa.P

end
section
namespace Go.Proofs.Ytnnlbofmlfafhaa.P
open Go.RowKit Go.Proofs.YtnnlbofmlfafhaaW.PrintWords Go.Proofs.YtnnlbofmlfafhaaW.PrintLast Go.Proofs.YtnnlbofmlfafhaaW.PrintMore
set_option linter.unusedVariables false
set_option linter.unusedSimpArgs false

attribute [local go_sem high] eqA63
def eqC (x y : S63) : Bool := x.f0 == y.f0 && x.f1 == y.f1
theorem eqC_iff (x y : S63) : eqC x y = true ↔ x = y := by
  cases x; cases y; simp [eqC]
theorem own_cell {w : World} {base g n cap : Nat} {ok : Nat → Prop} {l : List S63} (h : Kd.R k63 63 w base ok (.slice (some ⟨g, 0, none⟩) n cap) l) {j o : Nat} {x : S63} (hx : l[j]? = some x) (ho : o = j * 2) :
    w.cell? ⟨g, o, none⟩ = some (.int .i64 x.f0) ∧ w.cell? ⟨g, o + 1, none⟩ = some (.int .i64 x.f1) := by
  subst ho
  obtain ⟨cur, hh, _, _, _, _, _, _, hc⟩ := own_cells h
  constructor
  · rw [cell_of_row w g _ cur _ (0, 0) hh, ← Array.getElem?_toList]; exact hc j x hx 0 _ rfl
  · rw [cell_of_row w g _ cur _ (0, 0) hh, ← Array.getElem?_toList]; exact hc j x hx 1 _ rfl
theorem info_comm : (Try.prog.info? 63).map (fun i => (i.zero, i.size, i.bytes)) = some (some (.agg #[.int .i64 0, .int .i64 0]), 2, 16) := by kernel_rfl
set_option maxRecDepth 100000 in
/-- what is behind the first k is made nought -/
theorem clear_comm {w w0 : World} {base g n cap k : Nat} {ok : Nat → Prop} {l : List S63} (h : Kd.R k63 63 w base ok (.slice (some ⟨g, 0, none⟩) n cap) l) (hk : k < n) (ty : TypeId) (hB : Below base w0 w) :
    ∃ w1, (Builtin.clear_ #[28] ty #[.slice (some ⟨g, k * 2, none⟩) (n - k) (cap - k)]).run Try.prog w = .ok (.tuple #[]) w1 ∧ Kd.R k63 63 w1 base ok (.slice (some ⟨g, 0, none⟩) k cap) (l.take k) ∧ Below base w0 w1 := by
  obtain ⟨cur, hh, hs, hn, hnc, hm, hb, hok, hc⟩ := own_cells h
  have hz : ∀ w, (zeroValue 63).run Try.prog w = .ok (.agg #[.int .i64 0, .int .i64 0]) w := Try.zeroValue63
  obtain ⟨zs, hzs⟩ : ∃ zs, zs = (Builtin.zeroCells ((.agg #[.int .i64 0, .int .i64 0]) : Value).cells (n - k)).toList := ⟨_, rfl⟩
  have hzl : zs.length = (n - k) * 2 := by rw [hzs, Array.length_toList, size_zeroCells]; rfl
  have hz1 : ∀ u ∈ zs, u.oneCell' = true := by
    intro u hu
    rw [hzs] at hu
    simp [Builtin.zeroCells] at hu
    obtain ⟨i, hi, rfl⟩ := hu
    rcases Nat.mod_two_eq_zero_or_one i with e | e <;> simp [Value.cells, e] <;> rfl
  have hfit : k * 2 + zs.length ≤ cur.size := by rw [hzl, hs]; show k * 2 + (n - k) * 2 ≤ cap * 2; omega
  have hst := run_storeCells_cells (P := Try.prog) g (k * 2) zs 0 w
    (fun j hj => by
      rw [Nat.add_zero, cell_of_row w g _ cur _ (0, 0) hh]
      simp; omega)
    (fun j hj => by simp [World.frozen?, hh]) hz1
  rw [Nat.add_zero] at hst
  obtain ⟨cur', h3, h4, h5⟩ := setCells_row zs (k * 2) w cur hh hfit
  obtain ⟨s1, s2, s3, s4⟩ := setCells_same g zs (k * 2) w
  obtain ⟨m, hmk⟩ : ∃ m, n - k = m + 1 := ⟨n - k - 1, by omega⟩
  refine ⟨w.setCells g (k * 2) zs, ?_, ?_, ?_⟩
  · rw [hmk] at hzs ⊢
    simp [Builtin.clear_, run_underlying Try.underlying28, hz, ← hzs, hst]
  · have hk2 : (l.take k).length = k := by rw [List.length_take]; omega
    have := own_of_cells (ok := ok) (l := l.take k) h3 (by rw [h4]; exact hs) (by omega) hm hb hok (fun j x hx i u hu => by
      have hj : j < k := by have := (List.getElem?_eq_some_iff.1 hx).1; omega
      have hi : i < 2 := (List.getElem?_eq_some_iff.1 hu).1
      rw [List.getElem?_take_of_lt hj] at hx
      rw [h5]
      show (cur.toList.take (k * 2) ++ zs ++ cur.toList.drop (k * 2 + zs.length))[j * 2 + i]? = some u
      have hlt : j * 2 + i < k * 2 := by omega
      have hcl : (cur.toList.take (k * 2)).length = k * 2 := by rw [List.length_take, Array.length_toList]; omega
      rw [List.append_assoc, List.getElem?_append_left (by omega), List.getElem?_take_of_lt hlt]
      exact hc j x hx i u hu)
    rw [hk2] at this
    exact this
  · exact hB.trans ⟨s1, s2, s3, by omega, fun q hq => setCells_far zs (k * 2) q (by omega)⟩
theorem set_take {α : Type} {c : List α} {i : Nat} {x : α} (h : i < c.length) : (c.set i x).take (i + 1) = c.take i ++ [x] := by
  rw [List.take_add_one, List.getElem?_set_self h, List.take_set, List.set_eq_of_length_le (by rw [List.length_take]; omega)]; rfl
theorem encC_one (x : S63) : ∀ q, q ∈ encC x → q.oneCell' = true := fun q hq => by simp [encC] at hq; rcases hq with rfl | rfl <;> rfl
theorem cellsC {w : World} {g o : Nat} {x : S63} (h : w.cell? ⟨g, o, none⟩ = some (.int .i64 x.f0) ∧ w.cell? ⟨g, o + 1, none⟩ = some (.int .i64 x.f1)) : ∀ (j : Nat) (u : Value), (encC x)[j]? = some u → w.cell? ⟨g, o + j, none⟩ = some u := by
  intro j u hu
  match j with
  | 0 => simp [encC] at hu; subst hu; exact h.1
  | 1 => simp [encC] at hu; subst hu; exact h.2
  | j + 2 => simp [encC] at hu
theorem below_dr {B : Nat} {w W : World} (h : Below B w W) (n : Nat) : Below B w (W.drewN n) := ⟨h.os, h.tape, h.output, h.size, h.block⟩
set_option maxHeartbeats 4000000 in
set_option maxRecDepth 100000 in
theorem compact_comm (v : Value) (l : List S63) (base : Nat) (w : World) (HR0 : Kd.R k63 63 w base (fun _ => True) v l) (hl : l.length ≤ 1000000) (hbase : base ≤ w.heap.size) :
    Calls Try.prog 83 #[v] w fun e w' => ∃ v' : Value, e = .returned v' ∧ Kd.R k63 63 w' base (fun _ => True) v' (dd eqC l) ∧ Below base w w' := by
  obtain ⟨p, cap, hv⟩ := Kd.R_slice HR0
  subst hv
  have HR := mkHid HR0
  by_cases h2 : l.length < 2
  · have q1 : decide ((l.length : Int) < 2) = true := decide_eq_true (by omega)
    clear HR0
    go_enter Try.func83, Try.ntmps83
    go_wp2_with fail
    go_ret
    exact ⟨_, rfl, by rw [dd_one eqC l (by omega)]; exact HR.out, Below.refl _ _⟩
  · obtain ⟨g, hg⟩ : ∃ g, p = some ⟨g, 0, none⟩ := by
      obtain ⟨_, inner, ⟨_, hr⟩, _⟩ := HR0
      rcases hr with ⟨he, hz⟩ | ⟨g, cap', cur, he, _⟩
      · omega
      · injection he with e1
        exact ⟨g, e1⟩
    subst hg
    obtain ⟨_, _, _, _, hnc, hcm, _, _, _⟩ := own_cells HR0
    have q1 : decide ((l.length : Int) < 2) = false := decide_eq_false (by omega)
    obtain ⟨i0, hi, _, hz1, _⟩ := info_parts info_comm
    have HI := mkHid hi
    have HZ := mkHid hz1
    clear HR0 hi hz1
    go_enter Try.func83, Try.ntmps83
    go_wp2_with fail
    go_loopg [3] l.length (fun kq v3 wr => ∃ k : Int, v3 = .int .i64 k ∧ 1 ≤ k ∧ k ≤ l.length ∧ Hid (k + kq = l.length + 1) ∧ Hid (dd eqC (l.take k.toNat) = l.take k.toNat) ∧ Hid (Kd.R k63 63 wr base (fun _ => True) (.slice (some ⟨g, 0, none⟩) l.length cap) l) ∧ Hid (Below base w wr))
    case atStart =>
      refine ⟨1, rfl, by omega, by omega, by unfold Hid; omega, ?_, HR.out, Below.refl _ _⟩
      exact dd_one eqC _ (by rw [List.length_take]; omega)
    case round =>
      clear HR
      obtain ⟨k, rfl, k0, kn, hk, hd, HR, HB⟩ := hrel
      have hk1 := hk.out
      by_cases hkn : k < l.length
      · obtain ⟨x, hx⟩ : ∃ x, l[k.toNat]? = some x := ⟨_, List.getElem?_eq_getElem (h := by omega)⟩
        obtain ⟨y, hy⟩ : ∃ y, l[k.toNat - 1]? = some y := ⟨_, List.getElem?_eq_getElem (h := by omega)⟩
        obtain ⟨d0, d1⟩ := own_cell HR.out hx rfl
        obtain ⟨d2, d3⟩ := own_cell HR.out hy rfl
        have hdd := dd_take eqC eqC_iff l k.toNat x y hx (by omega) hy
        have q2 : decide (k < (l.length : Int)) = true := decide_eq_true hkn
        have hw0 : IntKind.i64.wrap (k - 1) = k - 1 := IntWalk.i64_in _ (by omega)
        have kz : 0 ≤ k := by omega
        have kz1 : 0 ≤ k - 1 := by omega
        have kn1 : k - 1 < l.length := by omega
        have hw1 : IntKind.i64.wrap (k + 1) = k + 1 := IntWalk.i64_in _ (by omega)
        have HX := mkHid hx
        have HY := mkHid hy
        have HDD := mkHid hdd
        clear hx hy hdd
        cases hq : eqC x y with
        | false =>
          have q3 : (x.f0 == y.f0 && x.f1 == y.f1) = false := hq
          have HQ := mkHid hq
          clear hq
          go_wp2_with fail
          go_quiet (fail)
          go_wp2_with fail
          go_roundg (gk - 1)
          case measure => omega
          case rel =>
            refine ⟨k + 1, rfl, by omega, by omega, by unfold Hid; omega, ?_, Kd.R_drewN HR.out _, below_dr HB.out _⟩
            show dd eqC (l.take (k + 1).toNat) = l.take (k + 1).toNat
            rw [show (k + 1).toNat = k.toNat + 1 by omega, HDD.out, HQ.out, if_neg (by simp), hd.out, List.take_add_one, HX.out]; rfl
        | true =>
          have q3 : (x.f0 == y.f0 && x.f1 == y.f1) = true := hq
          have HQ := mkHid hq
          have hcut := cut_from (P := Try.prog) 28 63 .i64 Try.underlying28 HI.out 2 HZ.out (some ⟨g, 0, none⟩) l.length cap k (by omega) (by omega)
          rw [show (if cap = k.toNat then some (⟨g, 0, none⟩ : Addr) else (some (⟨g, 0, none⟩ : Addr)).map (·.add (k.toNat * 2))) = some ⟨g, k.toNat * 2, none⟩ by rw [if_neg (by omega)]; simp [Addr.add]; omega] at hcut
          clear hq
          go_wp2_with fail
          go_quiet (fail)
          go_wp2_with fail
          clear d0 d1 d2 d3
          go_loopg [3, 5] l.length (fun kq v3 v5 wr => ∃ (m t : Int) (c : List S63), v3 = .int .i64 m ∧ v5 = .int .i64 t ∧ 1 ≤ t ∧ k + t ≤ l.length ∧ k ≤ m ∧ m ≤ k + t - 1 ∧ Hid (t + kq = l.length + 1) ∧
            Hid (Kd.R k63 63 wr base (fun _ => True) (.slice (some ⟨g, 0, none⟩) l.length cap) c) ∧ Hid (c.take m.toNat = dd eqC (l.take (k + t).toNat)) ∧ Hid (∀ i, (k + t - 1).toNat ≤ i → c[i]? = l[i]?) ∧ Hid (Below base w wr))
          case atStart =>
            refine ⟨k, 1, l, rfl, rfl, by omega, by omega, by omega, by omega, by unfold Hid; omega, Kd.R_drewN HR.out _, ?_, fun _ _ => rfl, below_dr HB.out _⟩
            show l.take k.toNat = dd eqC (l.take (k + 1).toNat)
            rw [show (k + 1).toNat = k.toNat + 1 by omega, HDD.out, HQ.out, if_pos rfl, hd.out]
          case round =>
            clear HR HB HDD HQ hd
            obtain ⟨m, t, c, rfl, rfl, t0, tn, m0, m1, ht, HR, hd, hdr, HB⟩ := hrel
            have ht1 := ht.out
            have hcl : l.length = c.length := (own_cells HR.out).choose_spec.2.2.1
            by_cases htn : k + t < l.length
            · obtain ⟨x2, hx2⟩ : ∃ x2, l[(k + t).toNat]? = some x2 := ⟨_, List.getElem?_eq_getElem (h := by omega)⟩
              obtain ⟨y2, hy2⟩ : ∃ y2, l[(k + t).toNat - 1]? = some y2 := ⟨_, List.getElem?_eq_getElem (h := by omega)⟩
              have hcx : c[(k + t).toNat]? = some x2 := (hdr.out _ (by omega)).trans hx2
              have hcy : c[(k + t).toNat - 1]? = some y2 := (hdr.out _ (by omega)).trans hy2
              obtain ⟨d0, d1⟩ := own_cell HR.out hcx (show k.toNat * 2 + t.toNat * 2 = (k + t).toNat * 2 by omega)
              obtain ⟨d2, d3⟩ := own_cell HR.out hcy (show k.toNat * 2 + (t.toNat - 1) * 2 = ((k + t).toNat - 1) * 2 by omega)
              have hdd := dd_take eqC eqC_iff l (k + t).toNat x2 y2 hx2 (by omega) hy2
              have q4 : decide (t < ((l.length - k.toNat : Nat) : Int)) = true := decide_eq_true (by omega)
              have hw2 : IntKind.i64.wrap (t - 1) = t - 1 := IntWalk.i64_in _ (by omega)
              have hw3 : IntKind.i64.wrap (t + 1) = t + 1 := IntWalk.i64_in _ (by omega)
              have hw4 : IntKind.i64.wrap (m + 1) = m + 1 := IntWalk.i64_in _ (by omega)
              have tz : 0 ≤ t := by omega
              have tz1 : 0 ≤ t - 1 := by omega
              have tn1 : t < ((l.length - k.toNat : Nat) : Int) := by omega
              have tn2 : t - 1 < ((l.length - k.toNat : Nat) : Int) := by omega
              have mz : 0 ≤ m := by omega
              have mn : m < l.length := by omega
              have HX2 := mkHid hx2
              have HDD := mkHid hdd
              have HCL := mkHid hcl
              clear hx2 hy2 hcx hcy hdd hcl
              cases hq2 : eqC x2 y2 with
              | true =>
                have q5 : (x2.f0 == y2.f0 && x2.f1 == y2.f1) = true := hq2
                have HQ2 := mkHid hq2
                clear hq2
                go_wp2_with fail
                go_quiet (fail)
                go_wp2_with fail
                go_roundg (gk - 1)
                case measure => omega
                case rel =>
                  refine ⟨m, t + 1, c, rfl, rfl, by omega, by omega, by omega, by omega, by unfold Hid; omega, Kd.R_drewN HR.out _, ?_, fun i hi => hdr.out i (by omega), below_dr HB.out _⟩
                  show c.take m.toNat = dd eqC (l.take (k + (t + 1)).toNat)
                  rw [show (k + (t + 1)).toNat = (k + t).toNat + 1 by omega, HDD.out, HQ2.out, if_pos rfl, hd.out]
              | false =>
                have q5 : (x2.f0 == y2.f0 && x2.f1 == y2.f1) = false := hq2
                have HQ2 := mkHid hq2
                clear hq2
                obtain ⟨cm, hcm2⟩ : ∃ cm, c[m.toNat]? = some cm := ⟨_, List.getElem?_eq_getElem (h := by have := HCL.out; omega)⟩
                have HCM := mkHid (own_cell HR.out hcm2 rfl)
                clear hcm2
                go_wp2_with fail
                go_quiet (fail)
                go_wp2_with (refine Kd.R_store k63 (w0 := w) base ?a1 ?a2 63 (.tmp 51) (.tmp 50) ?a3 63 (g := g) (n := l.length) (cap := cap) (o' := m.toNat * 2) m 0 c x2 (.agg #[.int .i64 x2.f0, .int .i64 x2.f1]) (encC x2) (encC cm) (fun _ => True) (fun _ => False) ?b1 ?b2 ?b3 ?b4 ?b5 ?b6 ?b7 ?b8 ?b9 ?c1 ?c2 ?c3 ?c4 ?c5 ?c6 ?_; (case a1 => rfl); (case a2 => rfl); (case a3 => rfl); (case b1 => rfl); (case b2 => rfl); (case b3 => rfl); (case b4 => rfl); (case b5 => rw [HI.out]; exact congrArg some HZ.out); (case b6 => exact encC_one x2); (case b7 => exact Kd.R_drewN HR.out _); (case b8 => exact mz); (case b9 => exact mn); (case c1 => rfl); (case c2 => exact cellsC HCM.out); (case c3 => exact Nat.le_refl _); (case c4 => exact k63_mkM _ _ _ _); (case c5 => exact fun _ h => h.elim); (case c6 => exact below_dr HB.out _); intro w3 hR3 hB3 _)
                have HR3 := mkHid hR3
                have HB3 := mkHid hB3
                clear hR3 hB3
                go_wp2_with fail
                go_roundg (gk - 1)
                case measure => omega
                case rel =>
                  refine ⟨m + 1, t + 1, c.set m.toNat x2, rfl, rfl, by omega, by omega, by omega, by omega, by unfold Hid; omega, HR3.out, ?_, fun i hi => ?_, HB3.out⟩
                  · show (c.set m.toNat x2).take (m + 1).toNat = dd eqC (l.take (k + (t + 1)).toNat)
                    rw [show (k + (t + 1)).toNat = (k + t).toNat + 1 by omega, HDD.out, HQ2.out, if_neg (by simp), show (m + 1).toNat = m.toNat + 1 by omega, set_take (by have := HCL.out; omega), hd.out]
                  · rw [List.getElem?_set_ne (by omega)]
                    exact hdr.out i (by omega)
            · have q4 : decide (t < ((l.length - k.toNat : Nat) : Int)) = false := decide_eq_false (by omega)
              have hcut2 := cut_from (P := Try.prog) 28 63 .i64 Try.underlying28 HI.out 2 HZ.out (some ⟨g, 0, none⟩) l.length cap m (by omega) (by omega)
              rw [show (if cap = m.toNat then some (⟨g, 0, none⟩ : Addr) else (some (⟨g, 0, none⟩ : Addr)).map (·.add (m.toNat * 2))) = some ⟨g, m.toNat * 2, none⟩ by rw [if_neg (by omega)]; simp [Addr.add]; omega] at hcut2
              have hcut3 := cut_to (P := Try.prog) 28 63 .i64 Try.underlying28 HI.out (some ⟨g, 0, none⟩) l.length cap m (by omega) (by omega) (by omega)
              obtain ⟨w1, hclr, hR1, hB1⟩ := clear_comm (k := m.toNat) HR.out (by omega) 0 HB.out
              have HR1 := mkHid hR1
              have HB1 := mkHid hB1
              have hall : l.take (k + t).toNat = l := List.take_of_length_le (by omega)
              have HD : Hid (c.take m.toNat = dd eqC l) := by have := hd.out; rw [hall] at this; exact this
              clear hR1 hB1 hall hcl
              go_wp2_with fail
              go_ret
              exact ⟨_, rfl, by rw [← HD.out]; exact HR1.out, HB1.out⟩
      · have q2 : decide (k < (l.length : Int)) = false := decide_eq_false (by omega)
        go_wp2_with fail
        go_ret
        refine ⟨_, rfl, ?_, HB.out⟩
        have := hd.out
        rw [show l.take k.toNat = l from List.take_of_length_le (by omega)] at this
        rw [this]
        exact HR.out
end Go.Proofs.Ytnnlbofmlfafhaa.P

end
section
namespace Go.Proofs.Ytnnlbofmlfafhaa.P
open Go.RowKit Go.Proofs.YtnnlbofmlfafhaaW.PrintWords Go.Proofs.YtnnlbofmlfafhaaW.PrintLast Go.Proofs.YtnnlbofmlfafhaaW.PrintMore
set_option linter.unusedVariables false
set_option linter.unusedSimpArgs false

theorem idxB_neg {α : Type} (p : α → Bool) (l : List α) (h : idxB p l = -1) : l.filter (fun x => !p x) = l := by
  rw [List.filter_eq_self]
  intro x hx
  have h1 := idxB_any p l
  rw [h] at h1
  have h2 : l.any p = false := h1.symm
  rw [List.any_eq_false] at h2
  have := h2 x hx
  simpa using this
theorem idxB_pos {α : Type} (p : α → Bool) (l : List α) (i : Int) (h : idxB p l = i) (h1 : i ≠ -1) : 0 ≤ i ∧ ∃ x, l[i.toNat]? = some x ∧ p x = true ∧ (l.take i.toNat).filter (fun x => !p x) = l.take i.toNat := by
  unfold idxB at h
  cases hf : l.findIdx? p with
  | none => rw [hf] at h; exact absurd h.symm h1
  | some k =>
    rw [hf] at h
    replace h : (k : Int) = i := h
    subst h
    obtain ⟨hk, hp, hall⟩ := List.findIdx?_eq_some_iff_getElem.1 hf
    refine ⟨by omega, l[k], ?_, hp, ?_⟩
    · rw [Int.toNat_natCast]; exact List.getElem?_eq_getElem hk
    · rw [Int.toNat_natCast, List.filter_eq_self]
      intro x hx
      obtain ⟨j, hj, rfl⟩ := List.getElem_of_mem hx
      rw [List.getElem_take]
      rw [List.length_take] at hj
      have := hall j (by omega)
      simpa using this
theorem filter_snoc {α : Type} (p : α → Bool) (l : List α) (j : Nat) (x : α) (h : l[j]? = some x) : (l.take (j + 1)).filter p = (l.take j).filter p ++ if p x = true then [x] else [] := by
  rw [List.take_add_one, h, List.filter_append]
  by_cases e : p x = true <;> simp [e]
set_option maxHeartbeats 4000000 in
set_option maxRecDepth 100000 in
theorem delete_comm (fid : Nat) (cap0 : Array Value) (p : S63 → Bool) (hen : ∀ (args : Array Value) (W : World), (callFunc fid args).run Try.prog W = .ok (.enter fid args) W)
    (v : Value) (l : List S63) (base : Nat) (w : World)
    (hcl : ∀ x, x ∈ l → ∀ W, Below base w W → Calls Try.prog fid (#[.agg #[.int .i64 x.f0, .int .i64 x.f1]] ++ cap0) W fun e w' => e = .returned (.bool (p x)) ∧ Below W.heap.size W w')
    (HR0 : Kd.R k63 63 w base (fun _ => True) v l) (hl : l.length ≤ 1000000) (hbase : base ≤ w.heap.size) :
    Calls Try.prog 76 #[v, .func (.func fid) #[] cap0] w fun e w' => ∃ v' : Value, e = .returned v' ∧ Kd.R k63 63 w' base (fun _ => True) v' (l.filter fun x => !p x) ∧ Below base w w' := by
  obtain ⟨A, cap, hv, hlc, hC⟩ := Kd.R_reads HR0
  subst hv
  generalize hi : idxB p l = i
  have HIdx := idx_Comm fid cap0 p (fun W => Below base w W ∧ base ≤ W.heap.size) (fun W W' h hb => ⟨below_then h.1 h.2 hb, Nat.le_trans h.2 hb.size⟩) hen A cap l (fun x hx W hW => hcl x hx W hW.1) w hC ⟨Below.refl _ _, hbase⟩
  rw [hi] at HIdx
  have HI := mkHid HIdx
  have HR := mkHid HR0
  have HCL := mkHid hcl
  have HLC := mkHid hlc
  by_cases h1 : i = -1
  · have q1 : (i == -1) = true := by rw [h1]; rfl
    have HN := mkHid (idxB_neg p l (hi.trans h1))
    clear HIdx hC hcl hi h1 hen HR0 hlc
    go_enter Try.func76, Try.ntmps76
    go_wp2_with fail
    refine HI.out.mono ?_
    rintro e w1 ⟨rfl, hb⟩
    have HB := mkHid (below_then (Below.refl base w) hbase hb)
    have HR1 := mkHid (Kd.R_below HR.out hb)
    clear hb
    go_wp2_with fail
    go_ret
    exact ⟨_, rfl, by rw [HN.out]; exact HR1.out, HB.out⟩
  · have q1 : (i == -1) = false := by simp [h1]
    obtain ⟨i0, x0, hx0, hp0, hf0⟩ := idxB_pos p l i hi h1
    have hil : i.toNat < l.length := (List.getElem?_eq_some_iff.1 hx0).1
    obtain ⟨g, hg⟩ : ∃ g, A = some ⟨g, 0, none⟩ := by
      obtain ⟨_, inner, ⟨_, hr⟩, _⟩ := HR0
      rcases hr with ⟨he, hz⟩ | ⟨g, cap', cur, he, _⟩
      · omega
      · injection he with e1
        exact ⟨g, e1⟩
    subst hg
    obtain ⟨_, _, _, _, hnc, hcm, _, _, _⟩ := own_cells HR0
    obtain ⟨info0, hinf, _, hz1, _⟩ := info_parts info_comm
    have HINF := mkHid hinf
    have HZ := mkHid hz1
    have HX0 := mkHid hx0
    have HP0 := mkHid hp0
    have HF0 := mkHid hf0
    have hil2 : i < l.length := by omega
    have hw0 : IntKind.i64.wrap (i + 1) = i + 1 := IntWalk.i64_in _ (by omega)
    have hneg : 0 ≤ i + 1 := by omega
    clear HIdx hC hcl hi h1 HR0 hlc hinf hz1 hx0 hp0 hf0
    go_enter Try.func76, Try.ntmps76
    go_wp2_with fail
    refine HI.out.mono ?_
    rintro e w1 ⟨rfl, hb⟩
    have HB := mkHid (below_then (Below.refl base w) hbase hb)
    have HR1 := mkHid (Kd.R_below HR.out hb)
    clear hb HI
    go_wp2_with fail
    go_loopg [5, 6] l.length (fun kq v5 v6 wr => ∃ (m j : Int) (c : List S63), v5 = .int .i64 m ∧ v6 = .int .i64 j ∧ 0 ≤ m ∧ m < j ∧ j ≤ l.length ∧ Hid ((l.length : Int) ≤ j + kq) ∧
      Hid (Kd.R k63 63 wr base (fun _ => True) (.slice (some ⟨g, 0, none⟩) l.length cap) c) ∧ Hid (c.take m.toNat = (l.take j.toNat).filter fun x => !p x) ∧ Hid (∀ q, j.toNat ≤ q → c[q]? = l[q]?) ∧ Hid (Below base w wr))
    case atStart =>
      refine ⟨i, i + 1, l, rfl, rfl, by omega, by omega, by omega, by unfold Hid; omega, HR1.out, ?_, fun _ _ => rfl, HB.out⟩
      · show l.take i.toNat = (l.take (i + 1).toNat).filter fun x => !p x
        rw [show (i + 1).toNat = i.toNat + 1 by omega, filter_snoc _ l _ x0 HX0.out, HF0.out, HP0.out]; simp
    case round =>
      clear HR1 HB HR HX0 HP0 HF0
      obtain ⟨m, j, c, rfl, rfl, m0, mj, jl, ht, HR, hd, hdr, HB⟩ := hrel
      have ht1 := ht.out
      have hcll : l.length = c.length := (own_cells HR.out).choose_spec.2.2.1
      by_cases hjl : j < l.length
      · obtain ⟨x, hx⟩ : ∃ x, l[j.toNat]? = some x := ⟨_, List.getElem?_eq_getElem (h := by omega)⟩
        have hcx : c[j.toNat]? = some x := (hdr.out _ (Nat.le_refl _)).trans hx
        obtain ⟨d0, d1⟩ := own_cell HR.out hcx rfl
        have hsn := filter_snoc (fun x => !p x) l j.toNat x hx
        have q2 : decide (j < (l.length : Int)) = true := decide_eq_true hjl
        have hw3 : IntKind.i64.wrap (j + 1) = j + 1 := IntWalk.i64_in _ (by omega)
        have hw4 : IntKind.i64.wrap (m + 1) = m + 1 := IntWalk.i64_in _ (by omega)
        have jz : 0 ≤ j := by omega
        have mn : m < l.length := by omega
        have HX := mkHid hx
        have HSN := mkHid hsn
        have HCLL := mkHid hcll
        clear hx hcx hsn hcll
        go_wp2_with fail
        obtain ⟨W, hW⟩ : ∃ W, W = wr.alloc (Obj.cells #[.int .i64 x.f0, .int .i64 x.f1] 63) := ⟨_, rfl⟩
        rw [← hW]
        have c0 : W.cell? ⟨wr.heap.size, 0, none⟩ = some (.int .i64 x.f0) := by rw [hW]; go_simp
        have c1 : W.cell? ⟨wr.heap.size, 1, none⟩ = some (.int .i64 x.f1) := by rw [hW]; go_simp
        have hbW : Below wr.heap.size wr W := by rw [hW]; exact below_alloc (Below.refl _ _) _
        have hlt : wr.heap.size < W.heap.size := by rw [hW]; simp
        have HBW : Hid (Below base w W) := below_then HB.out (Nat.le_trans hbase HB.out.size) hbW
        have HRW : Hid (Kd.R k63 63 W base (fun _ => True) (.slice (some ⟨g, 0, none⟩) l.length cap) c) := Kd.R_below HR.out hbW
        clear hW hbW d0 d1
        cases hpx : p x with
        | true =>
          have HPX := mkHid hpx
          clear hpx
          refine (HCL.out x (List.mem_of_getElem? HX.out) _ HBW.out).mono ?_
          rintro e w' ⟨rfl, hb⟩
          have HB2 : Hid (Below base w w') := below_then HBW.out (Nat.le_trans hbase HBW.out.size) hb
          have HR2 := mkHid (Kd.R_below HRW.out hb)
          clear hb
          rw [HPX.out]
          go_wp2_with fail
          go_roundg (gk - 1)
          case measure => omega
          case rel =>
            refine ⟨m, j + 1, c, rfl, rfl, by omega, by omega, by omega, by unfold Hid; omega, HR2.out, ?_, fun i hi => hdr.out i (by omega), HB2.out⟩
            show c.take m.toNat = (l.take (j + 1).toNat).filter fun x => !p x
            rw [show (j + 1).toNat = j.toNat + 1 by omega, HSN.out, HPX.out, hd.out]; simp
        | false =>
          have HPX := mkHid hpx
          clear hpx
          obtain ⟨cm, hcm2⟩ : ∃ cm, c[m.toNat]? = some cm := ⟨_, List.getElem?_eq_getElem (h := by have := HCLL.out; omega)⟩
          refine (HCL.out x (List.mem_of_getElem? HX.out) _ HBW.out).mono ?_
          rintro e w' ⟨rfl, hb⟩
          have HB2 : Hid (Below base w w') := below_then HBW.out (Nat.le_trans hbase HBW.out.size) hb
          have HR2 := mkHid (Kd.R_below HRW.out hb)
          have HCM := mkHid (own_cell HR2.out hcm2 rfl)
          have d0 : w'.cell? ⟨wr.heap.size, 0, none⟩ = some (.int .i64 x.f0) := (hb.cell (p := ⟨wr.heap.size, 0, none⟩) hlt).trans c0
          have d1 : w'.cell? ⟨wr.heap.size, 1, none⟩ = some (.int .i64 x.f1) := (hb.cell (p := ⟨wr.heap.size, 1, none⟩) hlt).trans c1
          clear hb hcm2 c0 c1
          rw [HPX.out]
          go_wp2_with (refine Kd.R_store k63 (w0 := w) base ?a1 ?a2 63 (.tmp 33) (.tmp 32) ?a3 63 (g := g) (n := l.length) (cap := cap) (o' := m.toNat * 2) m 0 c x (.agg #[.int .i64 x.f0, .int .i64 x.f1]) (encC x) (encC cm) (fun _ => True) (fun _ => False) ?b1 ?b2 ?b3 ?b4 ?b5 ?b6 ?b7 ?b8 ?b9 ?c1 ?c2 ?c3 ?c4 ?c5 ?c6 ?_; (case a1 => rfl); (case a2 => rfl); (case a3 => rfl); (case b1 => rfl); (case b2 => rfl); (case b3 => rfl); (case b4 => rfl); (case b5 => rw [HINF.out]; exact congrArg some HZ.out); (case b6 => exact encC_one x); (case b7 => exact HR2.out); (case b8 => exact m0); (case b9 => exact mn); (case c1 => rfl); (case c2 => exact cellsC HCM.out); (case c3 => exact Nat.le_refl _); (case c4 => exact k63_mkM _ _ _ _); (case c5 => exact fun _ h => h.elim); (case c6 => exact HB2.out); intro w3 hR3 hB3 _)
          have HR3 := mkHid hR3
          have HB3 := mkHid hB3
          clear hR3 hB3
          go_wp2_with fail
          go_roundg (gk - 1)
          case measure => omega
          case rel =>
            refine ⟨m + 1, j + 1, c.set m.toNat x, rfl, rfl, by omega, by omega, by omega, by unfold Hid; omega, HR3.out, ?_, fun i hi => ?_, HB3.out⟩
            · show (c.set m.toNat x).take (m + 1).toNat = (l.take (j + 1).toNat).filter fun x => !p x
              rw [show (j + 1).toNat = j.toNat + 1 by omega, HSN.out, HPX.out, show (m + 1).toNat = m.toNat + 1 by omega, set_take (by have := HCLL.out; omega), hd.out]; simp
            · rw [List.getElem?_set_ne (by omega)]
              exact hdr.out i (by omega)
      · have q2 : decide (j < (l.length : Int)) = false := decide_eq_false (by omega)
        have hcut2 := cut_from (P := Try.prog) 28 63 .i64 Try.underlying28 HINF.out 2 HZ.out (some ⟨g, 0, none⟩) l.length cap m (by omega) (by omega)
        rw [show (if cap = m.toNat then some (⟨g, 0, none⟩ : Addr) else (some (⟨g, 0, none⟩ : Addr)).map (·.add (m.toNat * 2))) = some ⟨g, m.toNat * 2, none⟩ by rw [if_neg (by omega)]; simp [Addr.add]; omega] at hcut2
        have hcut3 := cut_to (P := Try.prog) 28 63 .i64 Try.underlying28 HINF.out (some ⟨g, 0, none⟩) l.length cap m (by omega) (by omega) (by omega)
        obtain ⟨w1, hclr, hR1, hB1⟩ := clear_comm (k := m.toNat) HR.out (by omega) 0 HB.out
        have HR1 := mkHid hR1
        have HB1 := mkHid hB1
        have hall : l.take j.toNat = l := List.take_of_length_le (by omega)
        have HD : Hid (c.take m.toNat = l.filter fun x => !p x) := by have := hd.out; rw [hall] at this; exact this
        clear hR1 hB1 hall hcll
        go_wp2_with fail
        go_ret
        exact ⟨_, rfl, by rw [← HD.out]; exact HR1.out, HB1.out⟩
end Go.Proofs.Ytnnlbofmlfafhaa.P

end
section
namespace Go.Proofs.Ytnnlbofmlfafhaa.P
open Go.RowKit Go.Proofs.YtnnlbofmlfafhaaW.PrintWords Go.Proofs.YtnnlbofmlfafhaaW.PrintLast Go.Proofs.YtnnlbofmlfafhaaW.PrintMore
set_option linter.unusedVariables false
set_option linter.unusedSimpArgs false

def inC (l : List S63) (x : S63) : Bool := l.any fun y => eqC y x
theorem con_is_ev : ∀ (d : Nat) (l : List S63) (x : S63) (i : Nat) (k : Nat), l.length ≤ 9223372036854775807 → l.length - i = d → i ≤ l.length → d < k →
    ∃ r : Int, api_Comm_95.l0 k l (l.length : Int) (i : Int) x.f0 x.f1 = some r ∧ decide (r ≥ 0) = inC (l.drop i) x := by
  intro d
  induction d with
  | zero =>
    intro l x i k hl hd hi hk
    obtain ⟨k, rfl⟩ : ∃ m, k = m + 1 := ⟨k - 1, by omega⟩
    simp only [api_Comm_95.l0]
    rw [if_neg (by omega), List.drop_eq_nil_of_le (by omega)]
    exact ⟨-1, rfl, rfl⟩
  | succ d ih =>
    intro l x i k hl hd hi hk
    obtain ⟨k, rfl⟩ : ∃ m, k = m + 1 := ⟨k - 1, by omega⟩
    simp only [api_Comm_95.l0]
    have hil : i < l.length := by omega
    have hx : l[i]? = some l[i] := List.getElem?_eq_getElem hil
    have hdr : l.drop i = l[i] :: l.drop (i + 1) := List.drop_eq_getElem_cons hil
    have hrd : rd_T63 l (i : Int) = l[i] := by
      unfold rd_T63
      rw [Int.toNat_natCast, List.getD_eq_getElem?_getD, hx]; rfl
    rw [if_pos (by omega), if_pos (by omega), if_pos (by omega), hrd, hdr]
    generalize l[i] = y
    show ∃ r : Int, _ ∧ decide (r ≥ 0) = (eqC y x || inC (l.drop (i + 1)) x)
    have hsym : (x.f0 == y.f0 && (x.f1 == y.f1)) = eqC y x := by
      unfold eqC
      rw [BEq.comm (a := x.f0), BEq.comm (a := x.f1)]
    rw [hsym]
    by_cases e : eqC y x = true
    · rw [if_pos e, e]
      exact ⟨(i : Int), rfl, by rw [Bool.true_or]; exact decide_eq_true (by omega)⟩
    · rw [if_neg e, Bool.eq_false_iff.mpr e, Bool.false_or, show wrap64 ((i : Int) + 1) = ((i + 1 : Nat) : Int) from by unfold wrap64; omega]
      exact ih l x (i + 1) k hl (by omega) (by omega) (by omega)
theorem con_is (l : List S63) (x : S63) (hl : l.length ≤ 9223372036854775807) : api_Comm_79.f (l.length + 1) l x.f0 x.f1 = some (inC l x) := by
  unfold api_Comm_79.f api_Comm_95.f
  obtain ⟨r, h1, h2⟩ := con_is_ev l.length l x 0 (l.length + 1) hl (by omega) (by omega) (by omega)
  have h1' : api_Comm_95.l0 (l.length + 1) l (l.length : Int) 0 x.f0 x.f1 = some r := h1
  rw [h1', Option.bind_some, h2]; rfl
end Go.Proofs.Ytnnlbofmlfafhaa.P

end
section
namespace Go.Proofs.Ytnnlbofmlfafhaa.P
open Go.RowKit Go.Proofs.YtnnlbofmlfafhaaW.PrintWords Go.Proofs.YtnnlbofmlfafhaaW.PrintLast Go.Proofs.YtnnlbofmlfafhaaW.PrintMore
attribute [local go_sem] max2_int min2_int max_two min_two max_three min_three max_four min_four   -- for this text's walks alone
set_option linter.unusedVariables false
set_option linter.unusedSimpArgs false

def comm_Del.f (k : Nat) (l0 l1 : List S63) : Option (List S63 × Int) :=
  (comm_Set.f k l0).bind fun t => if t = true then (if l0.length ≤ 500000 then some (l0.filter (fun x => !inC l1 x), 0) else none) else some ([], 1)
set_option maxHeartbeats 1000000 in
set_option maxRecDepth 100000 in
theorem comm_Del.test (x : S63) (g : Nat) (A1 : Option Addr) (c1 : Nat) (l1 : List S63) (W : World) (hc : W.cell? ⟨g, 0, none⟩ = some (.slice A1 l1.length c1)) (hC : Kd.C k63 W A1 l1.length l1) (hl : l1.length ≤ c1) :
    Calls Try.prog 78 #[.agg #[.int .i64 x.f0, .int .i64 x.f1], .pointer (some ⟨g, 0, none⟩)] W fun e w' => e = .returned (.bool (inC l1 x)) ∧ Below W.heap.size W w' := by
  have hg : g < W.heap.size := World.block_lt_of_cell? _ _ hc
  have hne : g ≠ W.heap.size := by omega
  have HC := mkHid hC
  have HL := mkHid hl
  have HK := mkHid (con_is l1 x (Kd.C_max hC))
  clear hC hl
  go_enter Try.func78, Try.ntmps78
  go_wp2_with fail
  have HB : Hid (Below W.heap.size W (W.alloc (Obj.cells #[.int .i64 x.f0, .int .i64 x.f1] 63))) := below_alloc (Below.refl _ _) _
  refine (api_Comm_79.calls (l1.length + 1) A1 c1 l1 x.f0 x.f1 (inC l1 x) _ (Kd.C_below HC.out HB.out) HL.out HK.out).mono ?_
  rintro e w' ⟨rfl, hd⟩
  have HD : Hid (Below W.heap.size W w') := by first | exact below_step HB.out hd | exact below_step HB.out hd.below
  clear hd
  generalize hg : inC l1 x = b
  have HG := mkHid hg
  clear hg
  go_wp2_with fail
  go_ret
  exact ⟨by rw [HG.out]; rfl, HD.out⟩
set_option maxHeartbeats 4000000 in
set_option maxRecDepth 100000 in
theorem comm_Del.calls (k : Nat) (A0 : Option Addr) (c0 : Nat) (l0 : List S63) (A1 : Option Addr) (c1 : Nat) (l1 : List S63) (r1 : List S63) (r2 : Int) (w : World) (hr0 : Kd.C k63 w A0 l0.length l0) (hc0 : l0.length ≤ c0) (hr1 : Kd.C k63 w A1 l1.length l1) (hc1 : l1.length ≤ c1) (h : comm_Del.f k l0 l1 = some (r1, r2)) :
    Calls Try.prog 50 #[.slice A0 l0.length c0, .slice A1 l1.length c1] w fun e w' => ∃ v0_ : Value, e = .returned (.tuple #[v0_, .int .i64 r2]) ∧ Kd.R k63 63 w' w.heap.size (fun _ => True) v0_ r1 ∧ Below w.heap.size w w' := by
  unfold comm_Del.f at h
  obtain ⟨t, ht, h⟩ := Option.bind_eq_some_iff.mp h
  have HR0 := mkHid hr0
  have HR1 := mkHid hr1
  have HC0 := mkHid hc0
  have HC1 := mkHid hc1
  have HT := mkHid ht
  clear hr0 hr1 hc0 hc1 ht
  go_enter Try.func50, Try.ntmps50
  go_wp2_with fail
  obtain ⟨W, hW⟩ : ∃ W, W = w.alloc (Obj.cells #[.slice A1 l1.length c1] 28) := ⟨_, rfl⟩
  rw [← hW]
  have hcW : W.cell? ⟨w.heap.size, 0, none⟩ = some (.slice A1 l1.length c1) := by rw [hW]; go_simp
  have hltW : w.heap.size < W.heap.size := by rw [hW]; simp
  have HBW : Hid (Below w.heap.size w W) := by unfold Hid; rw [hW]; exact below_alloc (Below.refl _ _) _
  have HCW := mkHid hcW
  clear hW hcW
  refine (comm_Set.calls k A0 c0 l0 t _ (Kd.C_below HR0.out HBW.out) HC0.out HT.out).mono ?_
  rintro e w1 ⟨rfl, hb⟩
  have HB1 := mkHid (below_step HBW.out hb)
  have HC1W := mkHid ((hb.cell (p := ⟨w.heap.size, 0, none⟩) hltW).trans HCW.out)
  have hlt1 : w.heap.size < w1.heap.size := Nat.lt_of_lt_of_le hltW hb.size
  clear hb HCW
  cases t with
  | false =>
    rw [if_neg (by simp)] at h
    obtain ⟨rfl, rfl⟩ := Prod.mk.inj (Option.some.inj h)
    clear h
    go_wp2_with fail
    go_ret2
    exact ⟨_, rfl, Kd.R_nil _ _ _ _ _, HB1.out⟩
  | true =>
    rw [if_pos rfl] at h
    by_cases hs : l0.length ≤ 500000
    · rw [if_pos hs] at h
      obtain ⟨rfl, rfl⟩ := Prod.mk.inj (Option.some.inj h)
      clear h
      go_wp2_with fail
      refine (api_Comm_77.calls A0 c0 l0 l0 _ (Kd.C_below HR0.out HB1.out) HC0.out (by unfold api_Comm_77.f; rw [if_pos (by omega)])).mono ?_
      rintro e w2 ⟨v2, rfl, hR2, hb⟩
      have HB2 := mkHid (below_step HB1.out hb)
      have HR2 := mkHid hR2
      have HC2W := mkHid ((hb.cell (p := ⟨w.heap.size, 0, none⟩) hlt1).trans HC1W.out)
      have HSZ := mkHid hb.size
      have HL0 := mkHid (show l0.length ≤ 1000000 by omega)
      clear hb hR2 hs
      go_wp2_with fail
      refine (delete_comm 78 #[.pointer (some ⟨w.heap.size, 0, none⟩)] (fun x => inC l1 x) (fun _ _ => by go_simp) v2 l0 w1.heap.size w2 (fun x _ W' hW' => ?_) HR2.out HL0.out HSZ.out).mono ?_
      · exact comm_Del.test x w.heap.size A1 c1 l1 W' ((hW'.cell (p := ⟨w.heap.size, 0, none⟩) hlt1).trans HC2W.out) (Kd.C_below HR1.out (HB2.out.trans (hW'.mono (Nat.le_of_lt hlt1)))) HC1.out
      rintro e w3 ⟨v3, rfl, hR3, hb⟩
      obtain ⟨A3, c3, hv3⟩ := Kd.R_slice hR3
      subst hv3
      have HB3 := mkHid (HB2.out.trans (hb.mono (Nat.le_of_lt hlt1)))
      have HR3 := mkHid (Kd.R_lower hR3 (Nat.le_of_lt hlt1))
      clear hb hR3
      go_wp2_with fail
      go_ret2
      exact ⟨_, rfl, HR3.out, HB3.out⟩
    · rw [if_neg hs] at h; exact absurd h (by simp)

end Go.Proofs.Ytnnlbofmlfafhaa.P

end
section
namespace Go.Proofs
open Go.Shelf
def Try.growX_ren : Go.Shelf.Ren := ⟨fun | 4 => 96 | n => n, fun | 22 => 28 | 25 => 63 | 3 => 3 | 4 => 4 | 9 => 9 | 20 => 20 | 0 => 0 | 2 => 3 | n => n, fun | n => n⟩
theorem Try.growX : Go.Proofs.Lays8.n4 Try.prog Try.growX_ren := {
  mixed := by kernel_rfl
  f4 := ⟨Try.f96.name, by decide, Try.func96.trans (congrArg some (by kernel_rfl))⟩
  t0 := Try.underlying0
  a0 := Try.isAgg0
  z0 := Try.sizeOf0
  v0 := Try.zeroValue0
  t3 := Try.underlying3
  a3 := Try.isAgg3
  z3 := Try.sizeOf3
  v3 := Try.zeroValue3
  t4 := Try.underlying4
  a4 := Try.isAgg4
  z4 := Try.sizeOf4
  v4 := Try.zeroValue4
  t9 := Try.underlying9
  a9 := Try.isAgg9
  z9 := Try.sizeOf9
  v9 := Try.zeroValue9
  t20 := Try.underlying20
  a20 := Try.isAgg20
  z20 := Try.sizeOf20
  v20 := Try.zeroValue20
  t22 := Try.underlying28
  a22 := Try.isAgg28
  z22 := Try.sizeOf28
  v22 := Try.zeroValue28 }
end Go.Proofs

end
section
namespace Go.Proofs.Ytnnlbofmlfafhaa.P
open Go.RowKit Go.Proofs.YtnnlbofmlfafhaaW.PrintWords Go.Proofs.YtnnlbofmlfafhaaW.PrintLast Go.Proofs.YtnnlbofmlfafhaaW.PrintMore
attribute [local go_sem] max2_int min2_int max_two min_two max_three min_three max_four min_four   -- for this text's walks alone
set_option linter.unusedVariables false
set_option linter.unusedSimpArgs false

def api_Comm_81.sum (l : List (List S63)) : Nat := (l.map List.length).sum
def api_Comm_81.f (l0 : List (List S63)) : Option (List S63) := if l0.length ≤ 1000 ∧ api_Comm_81.sum l0 * 16 ≤ 140737488355328 then some l0.flatten else none
theorem api_Comm_81.sum_take (l : List (List S63)) (k : Nat) (x : List S63) (h : l[k]? = some x) : api_Comm_81.sum (l.take (k + 1)) = api_Comm_81.sum (l.take k) + x.length := by
  unfold api_Comm_81.sum
  rw [List.take_add_one, h]; simp
theorem api_Comm_81.sum_le (l : List (List S63)) (k : Nat) : api_Comm_81.sum (l.take k) ≤ api_Comm_81.sum l := by
  unfold api_Comm_81.sum
  have : (l.map List.length).sum = ((l.take k).map List.length).sum + ((l.drop k).map List.length).sum := by
    rw [← List.sum_append, ← List.map_append, List.take_append_drop]
  omega
theorem api_Comm_81.sum_flat (l : List (List S63)) : l.flatten.length = api_Comm_81.sum l := by unfold api_Comm_81.sum; rw [List.length_flatten]
theorem api_Comm_81.flat_take (l : List (List S63)) (k : Nat) (x : List S63) (h : l[k]? = some x) : (l.take (k + 1)).flatten = (l.take k).flatten ++ x := by
  rw [List.take_add_one, h]; simp
theorem api_Comm_81.info : (Try.prog.info? 63).map (fun i => (i.zero, i.size, i.bytes)) = some (some (.agg #[.int .i64 0, .int .i64 0]), 2, 16) := by kernel_rfl
theorem api_Comm_81.grow (n : Nat) (hn : n * 16 ≤ 140737488355328) (w : World) : Calls Try.prog 96 #[.slice none 0 0, .int .i64 n] w fun e w' => ∃ v : Value, e = .returned v ∧ Kd.R k63 63 w' w.heap.size (fun _ => True) v [] ∧ Below w.heap.size w w' := by
  by_cases h0 : n = 0
  · subst h0
    refine (Go.Proofs.Any8.slices_Grow_room Try.growX none 0 0 0 w (by omega) (by omega) (by omega) (by omega)).mono ?_
    rintro e w' ⟨rfl, rfl⟩
    exact ⟨_, rfl, Kd.R_nil _ _ _ _ _, Below.refl _ _⟩
  · obtain ⟨i0, hi, hz0, hz1, hz2⟩ := info_parts api_Comm_81.info
    refine (Go.Proofs.Any8.slices_Grow_grow Try.growX i0 _ hi hz0 (by rw [hz1]; decide) none 0 0 n [] w (by omega) (by omega) (by rw [hz2]; omega) (by omega) (by simp) (fun _ => rfl) (fun a h => by cases h)).mono ?_
    rintro e w' ⟨rfl, rfl⟩
    have hcap := grownCap_ge w (0 + n) 0 63
    have hmax := grownCap_le_maxLen w (0 + n) 0 63 (by unfold maxLen; omega)
    refine ⟨_, rfl, ?_, below_alloc (below_drew1 (Below.refl _ _)) _⟩
    refine ⟨fun _ _ => trivial, [], ?_, Reps.none _ _⟩
    refine ⟨by simp, .inr ⟨w.heap.size, _, _, rfl, Nat.le_refl _, heap_alloc_new w.drew _, Nat.zero_le _, hmax, ?_, by simp⟩⟩
    simp only [Array.size_append, size_zeroCells, List.size_toArray, List.length_nil, Value.cells]
    show 0 + (0 + n - 0) * 2 + (grownCap w (0 + n) 0 63 - (0 + n)) * 2 = grownCap w (0 + n) 0 63 * 2
    omega
set_option maxHeartbeats 2000000 in
set_option maxRecDepth 100000 in
theorem api_Comm_81.calls (A0 : Option Addr) (c0 : Nat) (l0 : List (List S63)) (r : List S63) (w : World) (hr0 : Kd.C (Kd.slice 63 k63) w A0 l0.length l0) (hc0 : l0.length ≤ c0) (h : api_Comm_81.f l0 = some r) :
    Calls Try.prog 81 #[.slice A0 l0.length c0] w fun e w' => ∃ v0_ : Value, e = .returned v0_ ∧ Kd.R k63 63 w' w.heap.size (fun _ => True) v0_ r ∧ Below w.heap.size w w' := by
  unfold api_Comm_81.f at h
  split at h
  · rename_i hb
    obtain rfl := Option.some.inj h
    have HR := mkHid hr0
    have hn := hb.1
    have hsz := mkHid hb.2
    have hbd : ∀ k, api_Comm_81.sum (l0.take k) ≤ 140737488355328 := fun k => by have := api_Comm_81.sum_le l0 k; have := hsz.out; omega
    have HBD := mkHid hbd
    clear h hr0 hc0 hb hbd
    go_enter Try.func81, Try.ntmps81
    go_wp2_with fail
    go_loopg [3, 11] l0.length (fun kq v3 v11 wr => ∃ k : Int, v3 = .int .i64 (api_Comm_81.sum (l0.take k.toNat) : Nat) ∧ v11 = .int .i64 k ∧ 0 ≤ k ∧ k ≤ l0.length ∧ Hid (k + kq = l0.length) ∧ w = wr)
    case atStart => exact ⟨0, rfl, rfl, by omega, by omega, by unfold Hid; omega, rfl⟩
    case round =>
      obtain ⟨k, rfl, rfl, k0, kn, hk, rfl⟩ := hrel
      have hk1 := hk.out
      by_cases hkn : k < l0.length
      · obtain ⟨x, hx⟩ : ∃ x, l0[k.toNat]? = some x := ⟨_, List.getElem?_eq_getElem (h := by omega)⟩
        obtain ⟨g, o, rfl, hg, hcells⟩ := C_at HR.out (by decide) (by omega)
        obtain ⟨cs, _, hK, hcc⟩ := hcells _ _ hx
        obtain ⟨Ax, cx, rfl, hxc, hxC⟩ := hK
        have d0 : w.cell? ⟨g, o + k.toNat * 1 + 0, none⟩ = some (.slice Ax x.length cx) := hcc 0 _ rfl
        rw [Nat.add_zero, Nat.mul_one] at d0
        have q1 : decide (k < (l0.length : Int)) = true := decide_eq_true hkn
        have hs := api_Comm_81.sum_take l0 k.toNat x hx
        have hs2 := HBD.out (k.toNat + 1)
        have hw1 : IntKind.i64.wrap (k + 1) = k + 1 := IntWalk.i64_in _ (by omega)
        have hw2 : IntKind.i64.wrap ((api_Comm_81.sum (l0.take k.toNat) : Nat) + (x.length : Int)) = ((api_Comm_81.sum (l0.take (k.toNat + 1)) : Nat) : Int) := by rw [IntWalk.i64_in _ (by omega), hs]; omega
        have q2 : decide (((api_Comm_81.sum (l0.take (k.toNat + 1)) : Nat) : Int) < 0) = false := decide_eq_false (by omega)
        have e1 : (k + 1).toNat = k.toNat + 1 := by omega
        have E1 := mkHid e1
        clear hcc hcells hxC hxc hs hs2 hx e1
        go_wp2_with fail
        go_roundg (gk - 1)
        case measure => omega
        case rel => exact ⟨k + 1, by rw [E1.out], rfl, by omega, by omega, by unfold Hid; omega, rfl⟩
      · have q1 : decide (k < (l0.length : Int)) = false := decide_eq_false (by omega)
        have hall : l0.take k.toNat = l0 := List.take_of_length_le (by omega)
        rw [hall]
        clear hall
        go_wp2_with fail
        refine (api_Comm_81.grow (api_Comm_81.sum l0) hsz.out w).mono ?_
        rintro e w1 ⟨v, rfl, hR1, hB1⟩
        have HR1 := mkHid hR1
        have HB1 := mkHid hB1
        clear hR1 hB1
        go_wp2_with fail
        go_loopg [6, 27] l0.length (fun kq v6 v27 wr => ∃ j : Int, v27 = .int .i64 j ∧ 0 ≤ j ∧ j ≤ l0.length ∧ Hid (j + kq = l0.length) ∧ Hid (Kd.R k63 63 wr w.heap.size (fun _ => True) v6 (l0.take j.toNat).flatten) ∧ Hid (Below w.heap.size w wr))
        case atStart => exact ⟨0, rfl, by omega, by omega, by unfold Hid; omega, HR1.out, HB1.out⟩
        case round =>
          clear HR1 HB1 q1
          obtain ⟨j, rfl, j0, jn, hj, hR2, hB2⟩ := hrel
          have hj1 := hj.out
          by_cases hjn : j < l0.length
          · obtain ⟨x, hx⟩ : ∃ x, l0[j.toNat]? = some x := ⟨_, List.getElem?_eq_getElem (h := by omega)⟩
            obtain ⟨g, o, rfl, hg, hcells⟩ := C_at (Kd.C_below HR.out hB2.out) (by decide) (by omega)
            obtain ⟨cs, _, hK, hcc⟩ := hcells _ _ hx
            obtain ⟨Ax, cx, rfl, hxc, hxC⟩ := hK
            have d0 : wr.cell? ⟨g, o + j.toNat * 1 + 0, none⟩ = some (.slice Ax x.length cx) := hcc 0 _ rfl
            rw [Nat.add_zero, Nat.mul_one] at d0
            have q1 : decide (j < (l0.length : Int)) = true := decide_eq_true hjn
            have hs := api_Comm_81.sum_take l0 j.toNat x hx
            have hs2 := api_Comm_81.sum_le l0 (j.toNat + 1)
            have hw1 : IntKind.i64.wrap (j + 1) = j + 1 := IntWalk.i64_in _ (by omega)
            have hl : ((l0.take j.toNat).flatten.length + x.length) * 16 ≤ 140737488355328 := by rw [api_Comm_81.sum_flat]; have := hsz.out; omega
            have HL := mkHid hl
            have HXC := mkHid hxC
            have e1 : (l0.take (j + 1).toNat).flatten = (l0.take j.toNat).flatten ++ x := by rw [show (j + 1).toNat = j.toNat + 1 by omega]; exact api_Comm_81.flat_take l0 j.toNat x hx
            have E1 := mkHid e1
            clear hcc hcells hxC hxc hs hs2 hx hl e1
            go_wp2_with (at_builtin; refine Kd.R_append_rows k63 (w0 := w) (Rr := Kd.K k63 wr) w.heap.size ?a1 (.tmp 31) (.tmp 32) 28 63 (.agg #[.int .i64 0, .int .i64 0]) 16 ?a2 ?a3 ?a4 ?a5 ?a6 ?a7 u6 (l0.take j.toNat).flatten x Ax x.length cx (fun _ => True) (fun _ => False) ?a8 ?a9 ?aO ?aR ?aK ?aE ?aF ?aB ?aS ?aL ?_; (case a1 => rfl); (case a2 => rfl); (case a3 => exact Try.underlying28); (case a4 => exact api_Comm_81.info); (case a5 => rfl); (case a6 => decide); (case a7 => omega); (case a8 => rfl); (case a9 => rfl); (case aO => exact hR2.out); (case aR => exact HXC.out); (case aK => intro y cs hy; exact (fun h w1 b ok => by have e := k63_open h; subst e; exact k63_mkM w1 b ok _) hy wr w.heap.size (fun _ => False)); (case aE => exact fun _ h => h.elim); (case aF => exact fun _ _ => trivial); (case aB => exact hB2.out); (case aS => exact hB2.out.size); (case aL => exact HL.out); intro v1 w3 hR3 hB3 _ _)
            have HR3 := mkHid hR3
            have HB3 := mkHid hB3
            clear hR3 hB3
            go_wp2_with fail
            go_roundg (gk - 1)
            case measure => omega
            case rel => exact ⟨j + 1, rfl, by omega, by omega, by unfold Hid; omega, by rw [E1.out]; exact HR3.out, HB3.out⟩
          · have q1 : decide (j < (l0.length : Int)) = false := decide_eq_false (by omega)
            have hall : l0.take j.toNat = l0 := List.take_of_length_le (by omega)
            rw [hall] at hR2
            go_wp2_with fail
            go_ret
            exact ⟨_, rfl, hR2.out, hB2.out⟩
  · exact absurd h (by simp)

end Go.Proofs.Ytnnlbofmlfafhaa.P

end
section
namespace Go.Proofs.Ytnnlbofmlfafhaa.P
open Go.RowKit Go.Proofs.YtnnlbofmlfafhaaW.PrintWords Go.Proofs.YtnnlbofmlfafhaaW.PrintLast Go.Proofs.YtnnlbofmlfafhaaW.PrintMore
attribute [local go_sem] max2_int min2_int max_two min_two max_three min_three max_four min_four   -- for this text's walks alone
set_option linter.unusedVariables false
set_option linter.unusedSimpArgs false

def comm_Add.may (x : S63) : Bool := decide (1 ≤ x.f0) && (decide (x.f0 ≤ 65535) && (decide (0 ≤ x.f1) && decide (x.f1 ≤ 65535)))
theorem comm_Add.may_is (x : S63) : comm_May.f x.f0 x.f1 = some (comm_Add.may x) := by
  unfold comm_May.f comm_Add.may
  by_cases h1 : x.f0 ≥ 1
  · rw [if_pos h1]
    by_cases h2 : x.f0 ≤ 65535
    · rw [if_pos h2]
      by_cases h3 : x.f1 ≥ 0
      · rw [if_pos h3]; simp [h1, h2, h3]
      · rw [if_neg h3]; simp [h3]
    · rw [if_neg h2]; simp [h2]
  · rw [if_neg h1]; simp [h1]
def comm_Add.f (k : Nat) (l0 l1 : List S63) : Option (List S63 × Int) :=
  (comm_Set.f k l0).bind fun t => if t = true then (if (l1.any fun c => !comm_Add.may c) = true then some ([], 1) else (if l0.length + l1.length ≤ 500000 then (if 8 < (dd eqC (sortC (l0 ++ l1))).length then some ([], 2) else some (dd eqC (sortC (l0 ++ l1)), 0)) else none)) else some ([], 1)
theorem comm_Add.test (x : S63) (w : World) : Calls Try.prog 80 #[.agg #[.int .i64 x.f0, .int .i64 x.f1]] w fun e w' => e = .returned (.bool (!comm_Add.may x)) ∧ Below w.heap.size w w' := by
  have HM := mkHid (fun W => comm_May.calls x.f0 x.f1 _ W (comm_Add.may_is x))
  go_enter Try.func80, Try.ntmps80
  go_wp2_with fail
  refine (HM.out _).mono ?_
  rintro e w' ⟨rfl, hd⟩
  have HD := mkHid hd
  clear hd
  generalize hg : comm_Add.may x = b
  have HG := mkHid hg
  clear hg
  go_wp2_with fail
  go_ret
  exact ⟨by rw [HG.out]; rfl, below_step (below_alloc (Below.refl _ _) _) HD.out⟩
theorem comm_Add.two {w : World} {g : Nat} {A0 A1 : Option Addr} {c0 c1 : Nat} {l0 l1 : List S63} (d0 : w.cell? ⟨g, 0, none⟩ = some (.slice A0 l0.length c0)) (d1 : w.cell? ⟨g, 1, none⟩ = some (.slice A1 l1.length c1))
    (h0 : Kd.C k63 w A0 l0.length l0) (h1 : Kd.C k63 w A1 l1.length l1) (q0 : l0.length ≤ c0) (q1 : l1.length ≤ c1) : Kd.C (Kd.slice 63 k63) w (some ⟨g, 0, none⟩) [l0, l1].length [l0, l1] := by
  refine ⟨rfl, by simp [maxLen], fun _ => ⟨⟨g, 0, none⟩, rfl, ?_⟩⟩
  intro j z hz
  match j with
  | 0 => simp at hz; subst hz; exact ⟨[.slice A0 l0.length c0], rfl, ⟨A0, c0, rfl, q0, h0⟩, fun i u hu => by match i with | 0 => simp at hu; subst hu; exact d0 | i + 1 => simp at hu⟩
  | 1 => simp at hz; subst hz; exact ⟨[.slice A1 l1.length c1], rfl, ⟨A1, c1, rfl, q1, h1⟩, fun i u hu => by match i with | 0 => simp at hu; subst hu; exact d1 | i + 1 => simp at hu⟩
  | j + 2 => simp at hz
set_option maxHeartbeats 4000000 in
set_option maxRecDepth 100000 in
theorem comm_Add.calls (k : Nat) (A0 : Option Addr) (c0 : Nat) (l0 : List S63) (A1 : Option Addr) (c1 : Nat) (l1 : List S63) (r1 : List S63) (r2 : Int) (w : World) (hr0 : Kd.C k63 w A0 l0.length l0) (hc0 : l0.length ≤ c0) (hr1 : Kd.C k63 w A1 l1.length l1) (hc1 : l1.length ≤ c1) (h : comm_Add.f k l0 l1 = some (r1, r2)) :
    Calls Try.prog 51 #[.slice A0 l0.length c0, .slice A1 l1.length c1] w fun e w' => ∃ v0_ : Value, e = .returned (.tuple #[v0_, .int .i64 r2]) ∧ Kd.R k63 63 w' w.heap.size (fun _ => True) v0_ r1 ∧ Below w.heap.size w w' := by
  unfold comm_Add.f at h
  obtain ⟨t, ht, h⟩ := Option.bind_eq_some_iff.mp h
  have HR0 := mkHid hr0
  have HR1 := mkHid hr1
  have HC0 := mkHid hc0
  have HC1 := mkHid hc1
  have HT := mkHid ht
  clear hr0 hr1 hc0 hc1 ht
  cases t with
  | false =>
    rw [if_neg (by simp)] at h
    obtain ⟨rfl, rfl⟩ := Prod.mk.inj (Option.some.inj h)
    clear h
    go_enter Try.func51, Try.ntmps51
    go_wp2_with fail
    refine (comm_Set.calls k A0 c0 l0 false w HR0.out HC0.out HT.out).mono ?_
    rintro e w1 ⟨rfl, hb⟩
    have HB := mkHid hb
    clear hb
    go_wp2_with fail
    go_ret2
    exact ⟨_, rfl, Kd.R_nil _ _ _ _ _, HB.out⟩
  | true =>
    rw [if_pos rfl] at h
    by_cases ha : (l1.any fun c => !comm_Add.may c) = true
    · rw [if_pos ha] at h
      obtain ⟨rfl, rfl⟩ := Prod.mk.inj (Option.some.inj h)
      clear h
      have HA := mkHid ha
      clear ha
      go_enter Try.func51, Try.ntmps51
      go_wp2_with fail
      refine (comm_Set.calls k A0 c0 l0 true w HR0.out HC0.out HT.out).mono ?_
      rintro e w1 ⟨rfl, hb⟩
      have HB := mkHid hb
      clear hb
      go_wp2_with fail
      refine (con_Comm 80 #[] (fun n => !comm_Add.may n) (fun _ => True) (fun _ _ _ _ => trivial) (fun _ _ => by go_simp) A1 c1 l1 (fun x _ W _ => comm_Add.test x W) _ (Kd.C_below HR1.out HB.out) trivial).mono ?_
      rintro e w2 ⟨rfl, hb⟩
      have HB2 := mkHid (below_step HB.out hb)
      rw [HA.out]
      clear hb HB
      go_wp2_with fail
      go_ret2
      exact ⟨_, rfl, Kd.R_nil _ _ _ _ _, HB2.out⟩
    · rw [if_neg ha] at h
      by_cases hs : l0.length + l1.length ≤ 500000
      · rw [if_pos hs] at h
        have HA := mkHid (Bool.eq_false_iff.mpr ha)
        have hflat : api_Comm_81.f [l0, l1] = some (l0 ++ l1) := by
          unfold api_Comm_81.f
          rw [if_pos ⟨by simp, by simp [api_Comm_81.sum]; omega⟩]; simp
        have HF := mkHid hflat
        have hlen : (l0 ++ l1).length ≤ 1000000 := by rw [List.length_append]; omega
        have hlen2 : (sortC (l0 ++ l1)).length ≤ 1000000 := by unfold sortC; rw [List.length_mergeSort]; exact hlen
        have HL1 := mkHid hlen
        have HL2 := mkHid hlen2
        have HH := mkHid h
        clear ha hflat hlen hlen2 h
        go_enter Try.func51, Try.ntmps51
        go_wp2_with fail
        refine (comm_Set.calls k A0 c0 l0 true w HR0.out HC0.out HT.out).mono ?_
        rintro e w1 ⟨rfl, hb⟩
        have HB := mkHid hb
        clear hb
        go_wp2_with fail
        refine (con_Comm 80 #[] (fun n => !comm_Add.may n) (fun _ => True) (fun _ _ _ _ => trivial) (fun _ _ => by go_simp) A1 c1 l1 (fun x _ W _ => comm_Add.test x W) _ (Kd.C_below HR1.out HB.out) trivial).mono ?_
        rintro e w2 ⟨rfl, hb⟩
        have HB2 := mkHid (below_step HB.out hb)
        rw [HA.out]
        clear hb HB
        go_wp2_with fail
        obtain ⟨w3, hw3⟩ : ∃ W, W = w2.alloc (Obj.cells #[.slice A0 l0.length c0, .slice A1 l1.length c1] 28) := ⟨_, rfl⟩
        rw [← hw3]
        have d0 : w3.cell? ⟨w2.heap.size, 0, none⟩ = some (.slice A0 l0.length c0) := by rw [hw3]; go_simp
        have d1 : w3.cell? ⟨w2.heap.size, 1, none⟩ = some (.slice A1 l1.length c1) := by rw [hw3]; go_simp
        have HB3 : Hid (Below w.heap.size w w3) := by unfold Hid; rw [hw3]; exact below_alloc HB2.out _
        have HCC := mkHid (comm_Add.two d0 d1 (Kd.C_below HR0.out HB3.out) (Kd.C_below HR1.out HB3.out) HC0.out HC1.out)
        clear d0 d1 hw3 HB2
        refine (api_Comm_81.calls (some ⟨w2.heap.size, 0, none⟩) 2 [l0, l1] (l0 ++ l1) w3 HCC.out (by simp) HF.out).mono ?_
        rintro e w4 ⟨v4, rfl, hR4, hb⟩
        have HR4 := mkHid (Kd.R_lower hR4 HB3.out.size)
        have HB4 := mkHid (below_step HB3.out hb)
        clear hR4 hb HB3
        go_wp2_with fail
        refine (sort_comm v4 (l0 ++ l1) w.heap.size w4 HR4.out HL1.out).mono ?_
        rintro e w5 ⟨rfl, hR5, hb⟩
        have HR5 := mkHid hR5
        have HB5 := mkHid (HB4.out.trans hb)
        clear hR5 hb HB4 HR4
        go_wp2_with fail
        refine (compact_comm v4 (sortC (l0 ++ l1)) w.heap.size w5 HR5.out HL2.out HB5.out.size).mono ?_
        rintro e w6 ⟨v6, rfl, hR6, hb⟩
        have HB6 := mkHid (HB5.out.trans hb)
        have HR6 := mkHid hR6
        obtain ⟨A6, c6, hv6⟩ := Kd.R_slice hR6
        subst hv6
        clear hR6 hb HB5 HR5
        generalize hg : dd eqC (sortC (l0 ++ l1)) = q at *
        have hh := HH.out
        by_cases h8 : 8 < q.length
        · rw [if_pos h8] at hh
          obtain ⟨rfl, rfl⟩ := Prod.mk.inj (Option.some.inj hh)
          clear hh HH hg
          have q8 : decide ((8 : Int) < (q.length : Int)) = true := decide_eq_true (by omega)
          go_wp2_with fail
          go_ret2
          exact ⟨_, rfl, Kd.R_nil _ _ _ _ _, HB6.out⟩
        · rw [if_neg h8] at hh
          obtain ⟨rfl, rfl⟩ := Prod.mk.inj (Option.some.inj hh)
          clear hh HH hg
          have q8 : decide ((8 : Int) < (q.length : Int)) = false := decide_eq_false (by omega)
          go_wp2_with fail
          go_ret2
          exact ⟨_, rfl, HR6.out, HB6.out⟩
      · rw [if_neg hs] at h; exact absurd h (by simp)

end Go.Proofs.Ytnnlbofmlfafhaa.P

end

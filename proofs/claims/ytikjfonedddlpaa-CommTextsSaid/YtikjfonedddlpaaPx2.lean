/- Printed by this session's own program (wip/tools/pr.py) out of the translation: functions of the program as plain Lean functions, and that the program's calls come to what these say. -/
import Derived.Test.YtikjfonedddlpaaPx0
import Derived.Test.YtikjfonedddlpaaShelf
import Derived.Test.YtikjfonedddlpaaKdW
import Derived.Test.YtikjfonedddlpaaNumP
import Derived.Test.YtikjfonedddlpaaKdW
namespace Go.Proofs.Ytikjfonedddlpaa.P
open Go.RowKit Go.Proofs.YtikjfonedddlpaaW.PrintWords Go.Proofs.YtikjfonedddlpaaW.PrintLast Go.Proofs.YtikjfonedddlpaaW.PrintMore
attribute [local go_sem] max2_int min2_int max_two min_two max_three min_three max_four min_four   -- for this text's walks alone
set_option linter.unusedVariables false
set_option linter.unusedSimpArgs false

/-! ### comm_May: function 12 -/
def comm_May.f (a0_0 : Int) (a0_1 : Int) : Option (Bool) := if a0_0 ≥ 1 then (if a0_0 ≤ 65535 then (if a0_1 ≥ 0 then (some (decide (a0_1 ≤ 65535))) else (some false)) else (some false)) else (some false)
set_option maxHeartbeats 8000000 in
set_option maxRecDepth 100000 in
theorem comm_May.calls (a0_0 : Int) (a0_1 : Int) (r : Bool) (w : World) (h : comm_May.f a0_0 a0_1 = some r) :
    Calls Try.prog 12 #[.agg #[.int .i64 a0_0, .int .i64 a0_1]] w fun e w' => e = .returned (.bool r) ∧ Below w.heap.size w w' := by
  have hu23 := Try.underlying23
  have HB := Aside0.mk (Below.refl w.heap.size w)
  have H : (if a0_0 ≥ 1 then (if a0_0 ≤ 65535 then (if a0_1 ≥ 0 then (some (decide (a0_1 ≤ 65535))) else (some false)) else (some false)) else (some false)) = some r := h
  clear h
  by_cases c2 : a0_0 ≥ 1
  · rw [if_pos c2] at H
    have c2b0 : decide (1 ≤ a0_0) = true := decide_eq_true c2
    clear c2
    by_cases c3 : a0_0 ≤ 65535
    · rw [if_pos c3] at H
      have c3b0 : decide (a0_0 ≤ 65535) = true := decide_eq_true c3
      clear c3
      by_cases c4 : a0_1 ≥ 0
      · rw [if_pos c4] at H
        have c4b0 : decide (0 ≤ a0_1) = true := decide_eq_true c4
        clear c4
        obtain rfl := Option.some.inj H
        go_enter Try.func12, Try.ntmps12
        go_wp2_with (first | ((with_reducible refine gate_dst (N := 1) rfl ?_); refine box_event ?hg (N := 1) ?hd (cs := #[.int .i64 a0_0, .int .i64 a0_1]) (t := 23) ?hr ?_; (case hd => rfl); (case hg => rfl); (case hr => first | (go_simp; done) | (go_simp; rfl)); intro gb101 hg w5 hbox hb; have n0_ := Aside0.mk (below_step (by repeat (first | (with_reducible first | exact HB.out | apply below_alloc | apply pw_below_drewN | apply below_drew1) | exact HB.out)) hb); have n1_ := Aside0.mk (hbox); have n2_ := Aside0.mk ((by rw [hg]; exact (below_size (by repeat (first | (with_reducible first | exact HB.out | apply below_alloc | apply pw_below_drewN | apply below_drew1) | exact HB.out))) : w.heap.size ≤ gb101)); have n3_ := Aside0.mk ((by rw [hg]; exact (below_size (by repeat (first | (with_reducible first | exact HB.out | apply below_alloc | apply pw_below_drewN | apply below_drew1) | exact HB.out))) : w.heap.size ≤ gb101)); clear HB; have HB := n0_; have BK101 := n1_; have GW101 := n2_; have GE101 := n3_; clear n0_ n1_ n2_ n3_; clear hb hbox hg; have hcz6_0 : w5.cell? ⟨gb101, 0, none⟩ = some (.int .i64 a0_0) := (blk_cell BK101.out 0).trans rfl; have hcz6_1 : w5.cell? ⟨gb101, 1, none⟩ = some (.int .i64 a0_1) := (blk_cell BK101.out 1).trans rfl; have hfz6_0 := blk_frozen BK101.out 0; have hfz6_1 := blk_frozen BK101.out 1))
        go_ret
        exact ⟨by first | rfl | (simp [errW_none, errW_some] <;> rfl) | (simp [*, errW_none, errW_some] <;> rfl), by repeat (first | (with_reducible first | exact HB.out | apply below_alloc | apply pw_below_drewN | apply below_drew1 | refine below_set ?_ GE101.out) | exact HB.out)⟩
      · rw [if_neg c4] at H
        have c4b0 : decide (0 ≤ a0_1) = false := decide_eq_false c4
        clear c4
        obtain rfl := Option.some.inj H
        go_enter Try.func12, Try.ntmps12
        go_wp2_with (first | ((with_reducible refine gate_dst (N := 1) rfl ?_); refine box_event ?hg (N := 1) ?hd (cs := #[.int .i64 a0_0, .int .i64 a0_1]) (t := 23) ?hr ?_; (case hd => rfl); (case hg => rfl); (case hr => first | (go_simp; done) | (go_simp; rfl)); intro gb101 hg w7 hbox hb; have n0_ := Aside0.mk (below_step (by repeat (first | (with_reducible first | exact HB.out | apply below_alloc | apply pw_below_drewN | apply below_drew1) | exact HB.out)) hb); have n1_ := Aside0.mk (hbox); have n2_ := Aside0.mk ((by rw [hg]; exact (below_size (by repeat (first | (with_reducible first | exact HB.out | apply below_alloc | apply pw_below_drewN | apply below_drew1) | exact HB.out))) : w.heap.size ≤ gb101)); have n3_ := Aside0.mk ((by rw [hg]; exact (below_size (by repeat (first | (with_reducible first | exact HB.out | apply below_alloc | apply pw_below_drewN | apply below_drew1) | exact HB.out))) : w.heap.size ≤ gb101)); clear HB; have HB := n0_; have BK101 := n1_; have GW101 := n2_; have GE101 := n3_; clear n0_ n1_ n2_ n3_; clear hb hbox hg; have hcz8_0 : w7.cell? ⟨gb101, 0, none⟩ = some (.int .i64 a0_0) := (blk_cell BK101.out 0).trans rfl; have hcz8_1 : w7.cell? ⟨gb101, 1, none⟩ = some (.int .i64 a0_1) := (blk_cell BK101.out 1).trans rfl; have hfz8_0 := blk_frozen BK101.out 0; have hfz8_1 := blk_frozen BK101.out 1))
        go_ret
        exact ⟨by first | rfl | (simp [errW_none, errW_some] <;> rfl) | (simp [*, errW_none, errW_some] <;> rfl), by repeat (first | (with_reducible first | exact HB.out | apply below_alloc | apply pw_below_drewN | apply below_drew1 | refine below_set ?_ GE101.out) | exact HB.out)⟩
    · rw [if_neg c3] at H
      have c3b0 : decide (a0_0 ≤ 65535) = false := decide_eq_false c3
      clear c3
      obtain rfl := Option.some.inj H
      go_enter Try.func12, Try.ntmps12
      go_wp2_with (first | ((with_reducible refine gate_dst (N := 1) rfl ?_); refine box_event ?hg (N := 1) ?hd (cs := #[.int .i64 a0_0, .int .i64 a0_1]) (t := 23) ?hr ?_; (case hd => rfl); (case hg => rfl); (case hr => first | (go_simp; done) | (go_simp; rfl)); intro gb101 hg w9 hbox hb; have n0_ := Aside0.mk (below_step (by repeat (first | (with_reducible first | exact HB.out | apply below_alloc | apply pw_below_drewN | apply below_drew1) | exact HB.out)) hb); have n1_ := Aside0.mk (hbox); have n2_ := Aside0.mk ((by rw [hg]; exact (below_size (by repeat (first | (with_reducible first | exact HB.out | apply below_alloc | apply pw_below_drewN | apply below_drew1) | exact HB.out))) : w.heap.size ≤ gb101)); have n3_ := Aside0.mk ((by rw [hg]; exact (below_size (by repeat (first | (with_reducible first | exact HB.out | apply below_alloc | apply pw_below_drewN | apply below_drew1) | exact HB.out))) : w.heap.size ≤ gb101)); clear HB; have HB := n0_; have BK101 := n1_; have GW101 := n2_; have GE101 := n3_; clear n0_ n1_ n2_ n3_; clear hb hbox hg; have hcz10_0 : w9.cell? ⟨gb101, 0, none⟩ = some (.int .i64 a0_0) := (blk_cell BK101.out 0).trans rfl; have hcz10_1 : w9.cell? ⟨gb101, 1, none⟩ = some (.int .i64 a0_1) := (blk_cell BK101.out 1).trans rfl; have hfz10_0 := blk_frozen BK101.out 0; have hfz10_1 := blk_frozen BK101.out 1))
      go_ret
      exact ⟨by first | rfl | (simp [errW_none, errW_some] <;> rfl) | (simp [*, errW_none, errW_some] <;> rfl), by repeat (first | (with_reducible first | exact HB.out | apply below_alloc | apply pw_below_drewN | apply below_drew1 | refine below_set ?_ GE101.out) | exact HB.out)⟩
  · rw [if_neg c2] at H
    have c2b0 : decide (1 ≤ a0_0) = false := decide_eq_false c2
    clear c2
    obtain rfl := Option.some.inj H
    go_enter Try.func12, Try.ntmps12
    go_wp2_with (first | ((with_reducible refine gate_dst (N := 1) rfl ?_); refine box_event ?hg (N := 1) ?hd (cs := #[.int .i64 a0_0, .int .i64 a0_1]) (t := 23) ?hr ?_; (case hd => rfl); (case hg => rfl); (case hr => first | (go_simp; done) | (go_simp; rfl)); intro gb101 hg w11 hbox hb; have n0_ := Aside0.mk (below_step (by repeat (first | (with_reducible first | exact HB.out | apply below_alloc | apply pw_below_drewN | apply below_drew1) | exact HB.out)) hb); have n1_ := Aside0.mk (hbox); have n2_ := Aside0.mk ((by rw [hg]; exact (below_size (by repeat (first | (with_reducible first | exact HB.out | apply below_alloc | apply pw_below_drewN | apply below_drew1) | exact HB.out))) : w.heap.size ≤ gb101)); have n3_ := Aside0.mk ((by rw [hg]; exact (below_size (by repeat (first | (with_reducible first | exact HB.out | apply below_alloc | apply pw_below_drewN | apply below_drew1) | exact HB.out))) : w.heap.size ≤ gb101)); clear HB; have HB := n0_; have BK101 := n1_; have GW101 := n2_; have GE101 := n3_; clear n0_ n1_ n2_ n3_; clear hb hbox hg; have hcz12_0 : w11.cell? ⟨gb101, 0, none⟩ = some (.int .i64 a0_0) := (blk_cell BK101.out 0).trans rfl; have hcz12_1 : w11.cell? ⟨gb101, 1, none⟩ = some (.int .i64 a0_1) := (blk_cell BK101.out 1).trans rfl; have hfz12_0 := blk_frozen BK101.out 0; have hfz12_1 := blk_frozen BK101.out 1))
    go_ret
    exact ⟨by first | rfl | (simp [errW_none, errW_some] <;> rfl) | (simp [*, errW_none, errW_some] <;> rfl), by repeat (first | (with_reducible first | exact HB.out | apply below_alloc | apply pw_below_drewN | apply below_drew1 | refine below_set ?_ GE101.out) | exact HB.out)⟩

/-! ### comm_NoExport: function 16 -/
def comm_NoExport.f  : Option (Int × Int) := some (65535, 65281)
set_option maxHeartbeats 8000000 in
set_option maxRecDepth 100000 in
theorem comm_NoExport.calls  (r1 : Int) (r2 : Int) (w : World) (h : comm_NoExport.f  = some (r1, r2)) :
    Calls Try.prog 16 #[] w fun e w' => e = .returned (.agg #[.int .i64 r1, .int .i64 r2]) ∧ Below w.heap.size w w' := by
  have hu23 := Try.underlying23
  have HB := Aside0.mk (Below.refl w.heap.size w)
  have H : (some (65535, 65281)) = some (r1, r2) := h
  clear h
  simp only [Option.some.injEq, Prod.mk.injEq] at H
  obtain ⟨rfl, rfl⟩ := H
  go_enter Try.func16, Try.ntmps16
  go_wp2_with (first | ((with_reducible refine gate_dst (N := 0) rfl ?_); refine box_event ?hg (N := 0) ?hd (cs := #[.int .i64 0, .int .i64 0]) (t := 23) ?hr ?_; (case hd => rfl); (case hg => rfl); (case hr => first | (go_simp; done) | (go_simp; rfl)); intro gb102 hg w1 hbox hb; have n0_ := Aside0.mk (below_step (by repeat (first | (with_reducible first | exact HB.out | apply below_alloc | apply pw_below_drewN | apply below_drew1) | exact HB.out)) hb); have n1_ := Aside0.mk (hbox); have n2_ := Aside0.mk ((by rw [hg]; exact (below_size (by repeat (first | (with_reducible first | exact HB.out | apply below_alloc | apply pw_below_drewN | apply below_drew1) | exact HB.out))) : w.heap.size ≤ gb102)); have n3_ := Aside0.mk ((by rw [hg]; exact (below_size (by repeat (first | (with_reducible first | exact HB.out | apply below_alloc | apply pw_below_drewN | apply below_drew1) | exact HB.out))) : w.heap.size ≤ gb102)); clear HB; have HB := n0_; have BK102 := n1_; have GW102 := n2_; have GE102 := n3_; clear n0_ n1_ n2_ n3_; clear hb hbox hg; have hcz2_0 : w1.cell? ⟨gb102, 0, none⟩ = some (.int .i64 0) := (blk_cell BK102.out 0).trans rfl; have hcz2_1 : w1.cell? ⟨gb102, 1, none⟩ = some (.int .i64 0) := (blk_cell BK102.out 1).trans rfl; have hfz2_0 := blk_frozen BK102.out 0; have hfz2_1 := blk_frozen BK102.out 1))
  refine bodyPost_ret (results_cell_row rfl _ _ gb102 23 #[.int .i64 65535, .int .i64 65281] (0, 0) _ rfl (by (with_reducible repeat (first | refine blk_drewN ?_ _ | refine blk_drew ?_ | refine blk_alloc ?_ _)); refine blk_put (cs := #[.int .i64 65535, .int .i64 0]) ?_ 1 _ rfl; (with_reducible repeat (first | refine blk_drewN ?_ _ | refine blk_drew ?_ | refine blk_alloc ?_ _)); refine blk_put (cs := #[.int .i64 0, .int .i64 0]) ?_ 0 _ rfl; (with_reducible repeat (first | refine blk_drewN ?_ _ | refine blk_drew ?_ | refine blk_alloc ?_ _)); exact BK102.out) Try.underlying23 rfl (by kernel_rfl)) rfl ?_
  exact ⟨by first | rfl | (simp [errW_none, errW_some] <;> rfl) | (simp [*, errW_none, errW_some] <;> rfl), by repeat (first | (with_reducible first | exact HB.out | apply below_alloc | apply pw_below_drewN | apply below_drew1 | refine below_set ?_ GE102.out) | exact HB.out)⟩

/-! ### comm_NoAdvertise: function 17 -/
def comm_NoAdvertise.f  : Option (Int × Int) := some (65535, 65282)
set_option maxHeartbeats 8000000 in
set_option maxRecDepth 100000 in
theorem comm_NoAdvertise.calls  (r1 : Int) (r2 : Int) (w : World) (h : comm_NoAdvertise.f  = some (r1, r2)) :
    Calls Try.prog 17 #[] w fun e w' => e = .returned (.agg #[.int .i64 r1, .int .i64 r2]) ∧ Below w.heap.size w w' := by
  have hu23 := Try.underlying23
  have HB := Aside0.mk (Below.refl w.heap.size w)
  have H : (some (65535, 65282)) = some (r1, r2) := h
  clear h
  simp only [Option.some.injEq, Prod.mk.injEq] at H
  obtain ⟨rfl, rfl⟩ := H
  go_enter Try.func17, Try.ntmps17
  go_wp2_with (first | ((with_reducible refine gate_dst (N := 0) rfl ?_); refine box_event ?hg (N := 0) ?hd (cs := #[.int .i64 0, .int .i64 0]) (t := 23) ?hr ?_; (case hd => rfl); (case hg => rfl); (case hr => first | (go_simp; done) | (go_simp; rfl)); intro gb103 hg w1 hbox hb; have n0_ := Aside0.mk (below_step (by repeat (first | (with_reducible first | exact HB.out | apply below_alloc | apply pw_below_drewN | apply below_drew1) | exact HB.out)) hb); have n1_ := Aside0.mk (hbox); have n2_ := Aside0.mk ((by rw [hg]; exact (below_size (by repeat (first | (with_reducible first | exact HB.out | apply below_alloc | apply pw_below_drewN | apply below_drew1) | exact HB.out))) : w.heap.size ≤ gb103)); have n3_ := Aside0.mk ((by rw [hg]; exact (below_size (by repeat (first | (with_reducible first | exact HB.out | apply below_alloc | apply pw_below_drewN | apply below_drew1) | exact HB.out))) : w.heap.size ≤ gb103)); clear HB; have HB := n0_; have BK103 := n1_; have GW103 := n2_; have GE103 := n3_; clear n0_ n1_ n2_ n3_; clear hb hbox hg; have hcz2_0 : w1.cell? ⟨gb103, 0, none⟩ = some (.int .i64 0) := (blk_cell BK103.out 0).trans rfl; have hcz2_1 : w1.cell? ⟨gb103, 1, none⟩ = some (.int .i64 0) := (blk_cell BK103.out 1).trans rfl; have hfz2_0 := blk_frozen BK103.out 0; have hfz2_1 := blk_frozen BK103.out 1))
  refine bodyPost_ret (results_cell_row rfl _ _ gb103 23 #[.int .i64 65535, .int .i64 65282] (0, 0) _ rfl (by (with_reducible repeat (first | refine blk_drewN ?_ _ | refine blk_drew ?_ | refine blk_alloc ?_ _)); refine blk_put (cs := #[.int .i64 65535, .int .i64 0]) ?_ 1 _ rfl; (with_reducible repeat (first | refine blk_drewN ?_ _ | refine blk_drew ?_ | refine blk_alloc ?_ _)); refine blk_put (cs := #[.int .i64 0, .int .i64 0]) ?_ 0 _ rfl; (with_reducible repeat (first | refine blk_drewN ?_ _ | refine blk_drew ?_ | refine blk_alloc ?_ _)); exact BK103.out) Try.underlying23 rfl (by kernel_rfl)) rfl ?_
  exact ⟨by first | rfl | (simp [errW_none, errW_some] <;> rfl) | (simp [*, errW_none, errW_some] <;> rfl), by repeat (first | (with_reducible first | exact HB.out | apply below_alloc | apply pw_below_drewN | apply below_drew1 | refine below_set ?_ GE103.out) | exact HB.out)⟩

/-! ### comm_Local: function 18 -/
def comm_Local.f  : Option (Int × Int) := some (65535, 65283)
set_option maxHeartbeats 8000000 in
set_option maxRecDepth 100000 in
theorem comm_Local.calls  (r1 : Int) (r2 : Int) (w : World) (h : comm_Local.f  = some (r1, r2)) :
    Calls Try.prog 18 #[] w fun e w' => e = .returned (.agg #[.int .i64 r1, .int .i64 r2]) ∧ Below w.heap.size w w' := by
  have hu23 := Try.underlying23
  have HB := Aside0.mk (Below.refl w.heap.size w)
  have H : (some (65535, 65283)) = some (r1, r2) := h
  clear h
  simp only [Option.some.injEq, Prod.mk.injEq] at H
  obtain ⟨rfl, rfl⟩ := H
  go_enter Try.func18, Try.ntmps18
  go_wp2_with (first | ((with_reducible refine gate_dst (N := 0) rfl ?_); refine box_event ?hg (N := 0) ?hd (cs := #[.int .i64 0, .int .i64 0]) (t := 23) ?hr ?_; (case hd => rfl); (case hg => rfl); (case hr => first | (go_simp; done) | (go_simp; rfl)); intro gb104 hg w1 hbox hb; have n0_ := Aside0.mk (below_step (by repeat (first | (with_reducible first | exact HB.out | apply below_alloc | apply pw_below_drewN | apply below_drew1) | exact HB.out)) hb); have n1_ := Aside0.mk (hbox); have n2_ := Aside0.mk ((by rw [hg]; exact (below_size (by repeat (first | (with_reducible first | exact HB.out | apply below_alloc | apply pw_below_drewN | apply below_drew1) | exact HB.out))) : w.heap.size ≤ gb104)); have n3_ := Aside0.mk ((by rw [hg]; exact (below_size (by repeat (first | (with_reducible first | exact HB.out | apply below_alloc | apply pw_below_drewN | apply below_drew1) | exact HB.out))) : w.heap.size ≤ gb104)); clear HB; have HB := n0_; have BK104 := n1_; have GW104 := n2_; have GE104 := n3_; clear n0_ n1_ n2_ n3_; clear hb hbox hg; have hcz2_0 : w1.cell? ⟨gb104, 0, none⟩ = some (.int .i64 0) := (blk_cell BK104.out 0).trans rfl; have hcz2_1 : w1.cell? ⟨gb104, 1, none⟩ = some (.int .i64 0) := (blk_cell BK104.out 1).trans rfl; have hfz2_0 := blk_frozen BK104.out 0; have hfz2_1 := blk_frozen BK104.out 1))
  refine bodyPost_ret (results_cell_row rfl _ _ gb104 23 #[.int .i64 65535, .int .i64 65283] (0, 0) _ rfl (by (with_reducible repeat (first | refine blk_drewN ?_ _ | refine blk_drew ?_ | refine blk_alloc ?_ _)); refine blk_put (cs := #[.int .i64 65535, .int .i64 0]) ?_ 1 _ rfl; (with_reducible repeat (first | refine blk_drewN ?_ _ | refine blk_drew ?_ | refine blk_alloc ?_ _)); refine blk_put (cs := #[.int .i64 0, .int .i64 0]) ?_ 0 _ rfl; (with_reducible repeat (first | refine blk_drewN ?_ _ | refine blk_drew ?_ | refine blk_alloc ?_ _)); exact BK104.out) Try.underlying23 rfl (by kernel_rfl)) rfl ?_
  exact ⟨by first | rfl | (simp [errW_none, errW_some] <;> rfl) | (simp [*, errW_none, errW_some] <;> rfl), by repeat (first | (with_reducible first | exact HB.out | apply below_alloc | apply pw_below_drewN | apply below_drew1 | refine below_set ?_ GE104.out) | exact HB.out)⟩

/-! ### strings_Cut: function 34 -/
-- EXT Derived.Test.YtikjfonedddlpaaShelf Derived.Test.YtikjfonedddlpaaKdW
def strings_Cut.f (a0 a1 : ByteArray) : Option (ByteArray × ByteArray × Bool) := match a1.data.toList with
  | [c] => if a0.size ≤ 4611686018427387904 then
      if 0 ≤ Lib.indexByte a0.data.toList c then some (⟨(a0.data.toList.take (Lib.indexByte a0.data.toList c).toNat).toArray⟩, ⟨(a0.data.toList.drop ((Lib.indexByte a0.data.toList c).toNat + 1)).toArray⟩, true)
      else some (a0, ⟨#[]⟩, false) else none
  | _ => none
theorem strings_Cut.idx_lt : ∀ (l : List UInt8) (c : UInt8), Lib.indexByte l c < (l.length : Int) ∧ -1 ≤ Lib.indexByte l c := by
  intro l c
  induction l with
  | nil => simp [Lib.indexByte]
  | cons b l ih =>
    unfold Lib.indexByte
    split
    · simp
    · split
      · simp; omega
      · simp; omega
set_option maxHeartbeats 1000000 in
set_option maxRecDepth 100000 in
theorem strings_Cut.calls (a0 : ByteArray) (a1 : ByteArray) (r1 : ByteArray) (r2 : ByteArray) (r3 : Bool) (w : World) (h : strings_Cut.f a0 a1 = some (r1, r2, r3)) :
    Calls Try.prog 34 #[.string a0, .string a1] w fun e w' => e = .returned (.tuple #[.string r1, .string r2, .bool r3]) ∧ Below w.heap.size w w' := by
  have hcut : Calls Try.prog 57 #[.string a0, .string a1] w fun e w' => e = .returned (.tuple #[.string r1, .string r2, .bool r3]) ∧ Below w.heap.size w w' := by
    unfold strings_Cut.f at h
    split at h
    · rename_i c hc
      obtain rfl : a1 = ⟨#[c]⟩ := by
        apply ByteArray.ext
        apply Array.ext'
        exact hc
      split at h
      · rename_i hs
        have hlen : a0.data.toList.length = a0.size := by rw [Array.length_toList]; rfl
        obtain ⟨hi1, hi2⟩ := strings_Cut.idx_lt a0.data.toList c
        have HI := mkHid (Try.stringslite_Index_one a0 c)
        generalize hI : Lib.indexByte a0.data.toList c = i at *
        have HLEN := mkHid hlen
        have hi3 : i < (a0.size : Int) := by omega
        clear hlen hi1
        by_cases h0 : 0 ≤ i
        · rw [if_pos h0] at h
          have hinj := mkHid (Option.some.inj h)
          have q0 : decide (0 ≤ i) = true := decide_eq_true h0
          have hw1 : IntKind.i64.wrap (i + 1) = i + 1 := IntWalk.i64_in _ (by omega)
          have g1 : (0 : Int) ≤ i + 1 := by omega
          have g2 : i + 1 ≤ (a0.size : Int) := by omega
          have g3 : i ≤ (a0.size : Int) := by omega
          clear h hI hc
          go_enter Try.func57, Try.ntmps57
          go_wp2_with (go_at_call 67; refine (HI.out _).mono ?_; rintro e w' ⟨rfl, rfl⟩)
          go_quiet (fail)
          go_wp2_with fail
          refine bodyPost_ret (v := .tuple #[.string r1, .string r2, .bool r3]) ?_ rfl ⟨rfl, by repeat (first | exact Below.refl _ _ | apply pw_below_drewN | apply below_drew1)⟩
          have e1 := Prod.mk.inj hinj.out
          obtain ⟨e2, e3⟩ := Prod.mk.inj e1.2
          have x1 := ext_take a0 i.toNat
          have x2 := ext_drop a0 (i.toNat + 1)
          rw [e1.1] at x1
          rw [e2] at x2
          have x3 : (i + 1).toNat = i.toNat + 1 := by omega
          simp [results, Try.results57, go_sem, x1, x2, x3, e3]
        · rw [if_neg h0] at h
          obtain ⟨rfl, h2⟩ := Prod.mk.inj (Option.some.inj h)
          obtain ⟨rfl, rfl⟩ := Prod.mk.inj h2
          have q0 : decide (0 ≤ i) = false := decide_eq_false h0
          clear h hI hc h2
          go_enter Try.func57, Try.ntmps57
          go_wp2_with (go_at_call 67; refine (HI.out _).mono ?_; rintro e w' ⟨rfl, rfl⟩)
          refine bodyPost_ret (v := .tuple #[.string a0, .string ⟨#[]⟩, .bool false]) ?_ rfl ⟨rfl, Below.refl _ _⟩
          simp [results, Try.results57, go_sem]
      · exact absurd h (by simp)
    · exact absurd h (by simp)
  have HC := mkHid hcut
  clear hcut h
  go_enter Try.func34, Try.ntmps34
  go_wp2_with (go_at_call 57; refine HC.out.mono ?_; rintro e w' ⟨rfl, hb⟩; have HB := mkHid hb; clear hb)
  refine bodyPost_ret (v := .tuple #[.string r1, .string r2, .bool r3]) ?_ rfl ⟨rfl, HB.out⟩
  simp [results, Try.results34, go_sem]

/-! ### comm_number: function 35 -/
-- EXT Derived.Test.YtikjfonedddlpaaNumP Derived.Test.YtikjfonedddlpaaKdW
def comm_number.lim : Int := 1000000
def comm_number.f (a0 : ByteArray) : Option (Int × Bool) := if a0.size ≤ 9223372036854775806 then some (numL comm_number.lim a0.data.toList) else none
set_option maxHeartbeats 2000000 in
set_option maxRecDepth 100000 in
theorem comm_number.any (s : ByteArray) (w : World) (hs : s.size ≤ 9223372036854775806) (h0 : s.data.toList ≠ []) (h1 : ¬ (1 < s.size ∧ s.data.toList.head? = some 48)) :
    Calls Try.prog 35 #[.string s] w fun e w' => e = .returned (.tuple #[.int .i64 (if s.data.toList.all isDg then numF 1000000 0 s.data.toList else 0), .bool (s.data.toList.all isDg)]) ∧ Below w.heap.size w w' := by
  have hlen : s.data.toList.length = s.size := by rw [Array.length_toList]; rfl
  have hpos : 0 < s.size := by rw [← hlen]; exact List.length_pos_iff.2 h0
  have hcv := Lib.run_convert_string_bytes (P := Try.prog) w 9 63 5 s Try.underlying9 Try.underlying63 Try.underlying5
  have q1 : (s.toList == ([] : List UInt8)) = false := by rw [ByteArray.toList_eq]; simpa using h0
  have HC : Hid (∀ j, j < s.size → (Lib.bytesWorld w 5 s).cell? ⟨w.heap.size, j, none⟩ = some (.int .u8 (s.data.toList.getD j 0).toNat)) := fun j hj => Lib.bytesWorld_cell w _ s j hj
  have HB : Hid (Below w.heap.size w (Lib.bytesWorld w 5 s)) := bytesWorld_below w _ s
  have HL := mkHid hlen
  have H1 := mkHid h1
  have H0 := mkHid h0
  have hlim : ∀ (n x : Int), mn (10 * n + (x - 48)) 1000000 = min (10 * n + (x - 48)) 1000000 := fun n x => by unfold mn; omega
  have HM := mkHid hlim
  generalize hD : (if s.data.toList.all isDg then numF 1000000 0 s.data.toList else 0) = D
  generalize hE : s.data.toList.all isDg = E
  have HD := mkHid hD
  have HE := mkHid hE
  clear h1 hlen h0 hlim hD hE
  have fin : ∀ W1 : World, Hid (Below w.heap.size w W1) → Hid (∀ j, j < s.size → W1.cell? ⟨w.heap.size, j, none⟩ = some (.int .u8 (s.data.toList.getD j 0).toNat)) → True := fun _ _ _ => trivial
  clear fin
  go_enter Try.func35, Try.ntmps35
  by_cases hb : 1 < s.size
  · have q2 : decide ((1 : Int) < (s.size : Int)) = true := decide_eq_true (by omega)
    have q3 := head48f s hpos (fun e => H1.out ⟨hb, e⟩)
    go_wp2_with fail
    generalize Lib.bytesWorld w 5 s = W1 at *
    generalize grownCap w s.size 0 5 = C1 at *
    clear hcv
    go_loopg [4, 22] s.size (fun kq v4 v22 wr => ∃ (n k : Int), v4 = .int .i64 n ∧ v22 = .int .i64 k ∧ 0 ≤ n ∧ n ≤ 1000000 ∧ 0 ≤ k ∧ k ≤ s.size ∧ Hid (k + kq = s.size) ∧ Hid ((s.data.toList.take k.toNat).all isDg = true) ∧ Hid (numF 1000000 n (s.data.toList.drop k.toNat) = numF 1000000 0 s.data.toList) ∧ Hid (wr = W1))
    case atStart => exact ⟨0, 0, rfl, rfl, by omega, by omega, by omega, by omega, by unfold Hid; omega, rfl, rfl, rfl⟩
    case round =>
      obtain ⟨n, k, rfl, rfl, n0, n1, k0, kn, hk, hall, hnum, hW⟩ := hrel
      have hk1 := hk.out
      by_cases hkn : k < s.size
      · have hw0 := hW.out
        subst hw0
        have hc := HC.out k.toNat (by omega)
        obtain ⟨c, hcl⟩ : ∃ c, s.data.toList[k.toNat]? = some c := ⟨_, List.getElem?_eq_getElem (h := by rw [HL.out]; omega)⟩
        have hx0 : (s.data.toList.getD k.toNat 0) = c := by rw [List.getD_eq_getElem?_getD, hcl]; rfl
        rw [hx0] at hc
        have hcr := c.toNat_lt
        obtain ⟨x, hx⟩ : ∃ x : Int, x = (c.toNat : Int) := ⟨_, rfl⟩
        rw [← hx] at hc
        have x0 : 0 ≤ x := by omega
        have x1 : x ≤ 255 := by omega
        have HX := mkHid hx
        have hdr := List.drop_eq_getElem_cons (l := s.data.toList) (i := k.toNat) (by rw [HL.out]; omega)
        have htk := List.take_add_one (l := s.data.toList) (i := k.toNat)
        rw [hcl] at htk
        have hce : s.data.toList[k.toNat]'(by rw [HL.out]; omega) = c := by rw [List.getElem?_eq_getElem (h := by rw [HL.out]; omega)] at hcl; exact Option.some.inj hcl
        rw [hce] at hdr
        have HDR := mkHid hdr
        have HTK := mkHid htk
        have HMEM : Hid (c ∈ s.data.toList) := List.mem_of_getElem? hcl
        clear hx hx0 hcl hdr htk hce
        have qk : decide (k < (s.size : Int)) = true := decide_eq_true hkn
        have hw1 : IntKind.i64.wrap (k + 1) = k + 1 := IntWalk.i64_in _ (by omega)
        by_cases hd : 48 ≤ x ∧ x ≤ 57
        · obtain ⟨hd0, hd1⟩ := hd
          have qa : decide (x < 48) = false := decide_eq_false (by omega)
          have qb : decide (57 < x) = false := decide_eq_false (by omega)
          go_wp2_with fail
          all_goals
            go_roundg (gk - 1)
            case measure => omega
            case rel =>
              refine ⟨min (10 * n + (x - 48)) 1000000, k + 1, ?_, rfl, by omega, by omega, by omega, by omega, by unfold Hid; omega, ?_, ?_, rfl⟩
              · congr 1; omega
              · show (s.data.toList.take (k + 1).toNat).all isDg = true
                rw [show (k + 1).toNat = k.toNat + 1 by omega, HTK.out, List.all_append, hall.out]
                have hxx := HX.out
                simp [isDg]
                omega
              · show numF _ _ (s.data.toList.drop (k + 1).toNat) = _
                rw [show (k + 1).toNat = k.toNat + 1 by omega]
                have := hnum.out
                rw [HDR.out] at this
                rw [HX.out]
                exact this
        · have hne : c ∈ s.data.toList ∧ isDg c = false := ⟨HMEM.out, by have hxx := HX.out; unfold isDg; simp; omega⟩
          have hEf : E = false := by rw [← HE.out, List.all_eq_false]; exact ⟨c, hne.1, by rw [hne.2]; simp⟩
          have hDf : D = 0 := by rw [← HD.out, HE.out, hEf]; rfl
          have HEF := mkHid hEf
          have HDF := mkHid hDf
          clear hEf hDf hne
          by_cases hlo : x < 48
          · have qa : decide (x < 48) = true := decide_eq_true hlo
            go_wp2_with fail
            go_ret2
            refine ⟨?_, HB.out⟩
            rw [HEF.out, HDF.out]; rfl
          · have qa : decide (x < 48) = false := decide_eq_false (by omega)
            have qb : decide (57 < x) = true := decide_eq_true (by omega)
            go_wp2_with fail
            go_ret2
            refine ⟨?_, HB.out⟩
            rw [HEF.out, HDF.out]; rfl
      · have qk : decide (k < (s.size : Int)) = false := decide_eq_false (by omega)
        go_wp2_with fail
        go_ret2
        have hk2 : k.toNat = s.size := by omega
        have ht : E = true := by
          have := hall.out
          rw [hk2, ← HL.out, List.take_length] at this
          rw [← HE.out]; exact this
        have hn : D = n := by
          have := hnum.out
          rw [hk2, ← HL.out, List.drop_length] at this
          rw [← HD.out, HE.out, ht, if_pos rfl, ← this]; rfl
        refine ⟨?_, ?_⟩
        · rw [ht, hn]; rfl
        · rw [hW.out]; exact HB.out
  · have q2 : decide ((1 : Int) < (s.size : Int)) = false := decide_eq_false (by omega)
    go_wp2_with fail
    generalize Lib.bytesWorld w 5 s = W1 at *
    generalize grownCap w s.size 0 5 = C1 at *
    clear hcv
    go_loopg [4, 22] s.size (fun kq v4 v22 wr => ∃ (n k : Int), v4 = .int .i64 n ∧ v22 = .int .i64 k ∧ 0 ≤ n ∧ n ≤ 1000000 ∧ 0 ≤ k ∧ k ≤ s.size ∧ Hid (k + kq = s.size) ∧ Hid ((s.data.toList.take k.toNat).all isDg = true) ∧ Hid (numF 1000000 n (s.data.toList.drop k.toNat) = numF 1000000 0 s.data.toList) ∧ Hid (wr = W1))
    case atStart => exact ⟨0, 0, rfl, rfl, by omega, by omega, by omega, by omega, by unfold Hid; omega, rfl, rfl, rfl⟩
    case round =>
      obtain ⟨n, k, rfl, rfl, n0, n1, k0, kn, hk, hall, hnum, hW⟩ := hrel
      have hk1 := hk.out
      by_cases hkn : k < s.size
      · have hw0 := hW.out
        subst hw0
        have hc := HC.out k.toNat (by omega)
        obtain ⟨c, hcl⟩ : ∃ c, s.data.toList[k.toNat]? = some c := ⟨_, List.getElem?_eq_getElem (h := by rw [HL.out]; omega)⟩
        have hx0 : (s.data.toList.getD k.toNat 0) = c := by rw [List.getD_eq_getElem?_getD, hcl]; rfl
        rw [hx0] at hc
        have hcr := c.toNat_lt
        obtain ⟨x, hx⟩ : ∃ x : Int, x = (c.toNat : Int) := ⟨_, rfl⟩
        rw [← hx] at hc
        have x0 : 0 ≤ x := by omega
        have x1 : x ≤ 255 := by omega
        have HX := mkHid hx
        have hdr := List.drop_eq_getElem_cons (l := s.data.toList) (i := k.toNat) (by rw [HL.out]; omega)
        have htk := List.take_add_one (l := s.data.toList) (i := k.toNat)
        rw [hcl] at htk
        have hce : s.data.toList[k.toNat]'(by rw [HL.out]; omega) = c := by rw [List.getElem?_eq_getElem (h := by rw [HL.out]; omega)] at hcl; exact Option.some.inj hcl
        rw [hce] at hdr
        have HDR := mkHid hdr
        have HTK := mkHid htk
        have HMEM : Hid (c ∈ s.data.toList) := List.mem_of_getElem? hcl
        clear hx hx0 hcl hdr htk hce
        have qk : decide (k < (s.size : Int)) = true := decide_eq_true hkn
        have hw1 : IntKind.i64.wrap (k + 1) = k + 1 := IntWalk.i64_in _ (by omega)
        by_cases hd : 48 ≤ x ∧ x ≤ 57
        · obtain ⟨hd0, hd1⟩ := hd
          have qa : decide (x < 48) = false := decide_eq_false (by omega)
          have qb : decide (57 < x) = false := decide_eq_false (by omega)
          go_wp2_with fail
          all_goals
            go_roundg (gk - 1)
            case measure => omega
            case rel =>
              refine ⟨min (10 * n + (x - 48)) 1000000, k + 1, ?_, rfl, by omega, by omega, by omega, by omega, by unfold Hid; omega, ?_, ?_, rfl⟩
              · congr 1; omega
              · show (s.data.toList.take (k + 1).toNat).all isDg = true
                rw [show (k + 1).toNat = k.toNat + 1 by omega, HTK.out, List.all_append, hall.out]
                have hxx := HX.out
                simp [isDg]
                omega
              · show numF _ _ (s.data.toList.drop (k + 1).toNat) = _
                rw [show (k + 1).toNat = k.toNat + 1 by omega]
                have := hnum.out
                rw [HDR.out] at this
                rw [HX.out]
                exact this
        · have hne : c ∈ s.data.toList ∧ isDg c = false := ⟨HMEM.out, by have hxx := HX.out; unfold isDg; simp; omega⟩
          have hEf : E = false := by rw [← HE.out, List.all_eq_false]; exact ⟨c, hne.1, by rw [hne.2]; simp⟩
          have hDf : D = 0 := by rw [← HD.out, HE.out, hEf]; rfl
          have HEF := mkHid hEf
          have HDF := mkHid hDf
          clear hEf hDf hne
          by_cases hlo : x < 48
          · have qa : decide (x < 48) = true := decide_eq_true hlo
            go_wp2_with fail
            go_ret2
            refine ⟨?_, HB.out⟩
            rw [HEF.out, HDF.out]; rfl
          · have qa : decide (x < 48) = false := decide_eq_false (by omega)
            have qb : decide (57 < x) = true := decide_eq_true (by omega)
            go_wp2_with fail
            go_ret2
            refine ⟨?_, HB.out⟩
            rw [HEF.out, HDF.out]; rfl
      · have qk : decide (k < (s.size : Int)) = false := decide_eq_false (by omega)
        go_wp2_with fail
        go_ret2
        have hk2 : k.toNat = s.size := by omega
        have ht : E = true := by
          have := hall.out
          rw [hk2, ← HL.out, List.take_length] at this
          rw [← HE.out]; exact this
        have hn : D = n := by
          have := hnum.out
          rw [hk2, ← HL.out, List.drop_length] at this
          rw [← HD.out, HE.out, ht, if_pos rfl, ← this]; rfl
        refine ⟨?_, ?_⟩
        · rw [ht, hn]; rfl
        · rw [hW.out]; exact HB.out
theorem comm_number.calls (a0 : ByteArray) (r1 : Int) (r2 : Bool) (w : World) (h : comm_number.f a0 = some (r1, r2)) :
    Calls Try.prog 35 #[.string a0] w fun e w' => e = .returned (.tuple #[.int .i64 r1, .bool r2]) ∧ Below w.heap.size w w' := by
  unfold comm_number.f at h
  split at h
  · rename_i hs
    have hlen : a0.data.toList.length = a0.size := by rw [Array.length_toList]; rfl
    unfold numL at h
    split at h
    · rename_i hh
      obtain ⟨rfl, rfl⟩ := Prod.mk.inj (Option.some.inj h)
      by_cases h0 : a0.data.toList = []
      · have q1 : (a0.toList == ([] : List UInt8)) = true := by rw [ByteArray.toList_eq]; simpa using h0
        clear hh h hlen hs h0
        go_enter Try.func35, Try.ntmps35
        go_wp2_with fail
        go_ret2
        exact ⟨rfl, Below.refl _ _⟩
      · obtain ⟨hb, hh⟩ := hh.resolve_left h0
        rw [hlen] at hb
        have q1 : (a0.toList == ([] : List UInt8)) = false := by rw [ByteArray.toList_eq]; simpa using h0
        have q2 : decide ((1 : Int) < (a0.size : Int)) = true := decide_eq_true (by omega)
        have q3 := head48t a0 (Nat.lt_trans Nat.zero_lt_one hb) hh
        clear hh h hlen hs h0
        go_enter Try.func35, Try.ntmps35
        go_wp2_with fail
        go_ret2
        exact ⟨rfl, Below.refl _ _⟩
    · rename_i hh
      have h0 : a0.data.toList ≠ [] := fun e => hh (.inl e)
      have h1 : ¬ (1 < a0.size ∧ a0.data.toList.head? = some 48) := fun e => hh (.inr (by rw [hlen]; exact e))
      refine (comm_number.any a0 w hs h0 h1).mono fun e w' ⟨he, hb⟩ => ⟨?_, hb⟩
      rw [he]
      split at h <;> rename_i hg <;> obtain ⟨rfl, rfl⟩ := Prod.mk.inj (Option.some.inj h)
      · rw [if_pos hg, hg]; rfl
      · rw [if_neg hg, Bool.eq_false_iff.2 hg]
  · exact absurd h (by simp)

/-! ### comm_Parse: function 10 -/
def comm_Parse.j0 : Nat → Int → Int → Bool → Option (Int × Int × Int)
  | 0, _, _, _ => none
  | k + 1, x7, x9, x47 => if x47 = true then (some (0, 0, 4)) else ((comm_May.f x7 x9).bind fun t120 => (if t120 = true then (some (x7, x9, 0)) else (some (0, 0, 7))))
def comm_Parse.f (k : Nat) (a0 : ByteArray) : Option (Int × Int × Int) := if a0.toList = ([110, 111, 45, 101, 120, 112, 111, 114, 116] : List UInt8) then ((comm_NoExport.f).bind fun bt106 => (some (bt106.1, bt106.2, 0))) else (if a0.toList = ([110, 111, 45, 97, 100, 118, 101, 114, 116, 105, 115, 101] : List UInt8) then ((comm_NoAdvertise.f).bind fun bt108 => (some (bt108.1, bt108.2, 0))) else (if a0.toList = ([108, 111, 99, 97, 108] : List UInt8) then ((comm_Local.f).bind fun bt110 => (some (bt110.1, bt110.2, 0))) else ((strings_Cut.f a0 (⟨#[58]⟩ : ByteArray)).bind fun bt112 => ((comm_number.f bt112.1).bind fun bt115 => ((comm_number.f bt112.2.1).bind fun bt117 => (if bt112.2.2 = true then (if bt115.2 = true then (comm_Parse.j0 k bt115.1 bt117.1 (!bt117.2)) else (comm_Parse.j0 k bt115.1 bt117.1 true)) else (comm_Parse.j0 k bt115.1 bt117.1 true)))))))
theorem comm_Parse.mono_l : ∀ k, (∀ y0 y1 y2, LeO (comm_Parse.j0 k y0 y1 y2) (comm_Parse.j0 (k + 1) y0 y1 y2))
  | 0 => fun _ _ _ r h => by simp [comm_Parse.j0] at h
  | k + 1 => by
    have ih0 := comm_Parse.mono_l k
    · intro y0 y1 y2
      unfold comm_Parse.j0
      repeat' first
      | (with_reducible exact ih0 _ _ _)
      | (with_reducible exact LeO.refl _)
      | (with_reducible exact LeO.none _)
      | (with_reducible refine LeO.ite ?_ ?_)
      | (with_reducible refine LeO.bind ?_ (fun _ => ?_))
      | exact ih0 _ _ _
      | exact LeO.none _
      | refine LeO.ite ?_ ?_
      | refine LeO.bind ?_ (fun _ => ?_)
theorem comm_Parse.mono : ∀ a0 k, LeO (comm_Parse.f k a0) (comm_Parse.f (k + 1) a0) := by
  intro a0 k
  have ih0 := comm_Parse.mono_l k
  unfold comm_Parse.f
  repeat' first
      | (with_reducible exact ih0 _ _ _)
      | (with_reducible exact LeO.refl _)
      | (with_reducible exact LeO.none _)
      | (with_reducible refine LeO.ite ?_ ?_)
      | (with_reducible refine LeO.bind ?_ (fun _ => ?_))
      | exact ih0 _ _ _
      | exact LeO.none _
      | refine LeO.ite ?_ ?_
      | refine LeO.bind ?_ (fun _ => ?_)
set_option maxHeartbeats 8000000 in
set_option maxRecDepth 100000 in
theorem comm_Parse.calls (k : Nat) (a0 : ByteArray) (r1 : Int) (r2 : Int) (r3 : Int) (w : World) (h : comm_Parse.f k a0 = some (r1, r2, r3)) :
  Calls Try.prog 10 #[.string a0] w fun e w' => e = .returned (.tuple #[.agg #[.int .i64 r1, .int .i64 r2], .int .i64 r3]) ∧ Below w.heap.size w w' := by
 have hu23 := Try.underlying23
 have HB := Aside0.mk (Below.refl w.heap.size w)
 have H := h
 unfold comm_Parse.f at H
 clear h
 by_cases c2 : a0.toList = ([110, 111, 45, 101, 120, 112, 111, 114, 116] : List UInt8)
 ·rw [if_pos c2] at H
  have c2b0 : (a0.toList == ([110, 111, 45, 101, 120, 112, 111, 114, 116] : List UInt8)) = true := beq_iff_eq.mpr c2
  have c2b1 : (a0.toList != ([110, 111, 45, 101, 120, 112, 111, 114, 116] : List UInt8)) = false := bne_eq_false_iff_eq.mpr c2
  clear c2
  replace H := Option.bind_eq_some_iff.mp H
  obtain ⟨⟨t106, t107⟩, A30, H⟩ := H
  replace H : (some (t106, t107, 0)) = some (r1, r2, r3) := H
  have A3 := Aside0.mk A30
  clear A30
  simp only [Option.some.injEq, Prod.mk.injEq] at H
  obtain ⟨rfl, rfl, rfl⟩ := H
  go_enter Try.func10, Try.ntmps10
  go_wp2_with (first | ((with_reducible refine gate_dst (N := 2) rfl ?_); refine box_event ?hg (N := 2) ?hd (cs := #[.int .i64 0, .int .i64 0]) (t := 23) ?hr ?_; (case hd => rfl); (case hg => rfl); (case hr => first | (go_simp; done) | (go_simp; rfl)); intro ab hg w4 hbox hb; have n0_ := Aside0.mk (below_step (by repeat (first | (with_reducible first | exact HB.out | apply below_alloc | apply pw_below_drewN | apply below_drew1) | exact HB.out)) hb); have n1_ := Aside0.mk (hbox); have n2_ := Aside0.mk ((by rw [hg]; exact (below_size (by repeat (first | (with_reducible first | exact HB.out | apply below_alloc | apply pw_below_drewN | apply below_drew1) | exact HB.out))) : w.heap.size ≤ ab)); have n3_ := Aside0.mk ((by rw [hg]; exact (below_size (by repeat (first | (with_reducible first | exact HB.out | apply below_alloc | apply pw_below_drewN | apply below_drew1) | exact HB.out))) : w.heap.size ≤ ab)); clear HB; have HB := n0_; have aa := n1_; have GW105 := n2_; have ac := n3_; clear n0_ n1_ n2_ n3_; clear hb hbox hg) | ((with_reducible refine gate_callee (f := 16) rfl ?_); refine goesL_ (some 15) rfl rfl Try.func16 (by kernel_rfl) rfl #[] rfl (by (try simp only [List.map_toArray, List.map_cons, List.map_nil]); first | done | rfl) ?_; (with_reducible refine (comm_NoExport.calls  t106 t107 _ A3.out).mono ?_); rintro e w5 ⟨rfl, hb⟩; refine ⟨_, rfl, ?_⟩; replace aa := Aside0.mk (blk_below (g := ab) (by (with_reducible repeat (first | refine blk_drewN ?_ _ | refine blk_drew ?_ | refine blk_alloc ?_ _)); exact aa.out) hb); replace HB := Aside0.mk (below_step (by repeat (first | (with_reducible first | exact HB.out | apply below_alloc | apply pw_below_drewN | apply below_drew1 | refine below_set ?_ ac.out) | exact HB.out)) hb); (try clear hb); (try clear hb2); (try clear hk); (try clear hi); have hcz6_0 : w5.cell? ⟨ab, 0, none⟩ = some (.int .i64 0) := (blk_cell aa.out 0).trans rfl; have hcz6_1 : w5.cell? ⟨ab, 1, none⟩ = some (.int .i64 0) := (blk_cell aa.out 1).trans rfl; have hfz6_0 := blk_frozen aa.out 0; have hfz6_1 := blk_frozen aa.out 1))
  refine bodyPost_ret (results_ct rfl _ _ ab 23 #[.int .i64 t106, .int .i64 t107] (0, 0) _ rfl (by (with_reducible repeat (first | refine blk_drewN ?_ _ | refine blk_drew ?_ | refine blk_alloc ?_ _)); refine blk_put (cs := #[.int .i64 t106, .int .i64 0]) ?_ 1 _ rfl; (with_reducible repeat (first | refine blk_drewN ?_ _ | refine blk_drew ?_ | refine blk_alloc ?_ _)); refine blk_put (cs := #[.int .i64 0, .int .i64 0]) ?_ 0 _ rfl; (with_reducible repeat (first | refine blk_drewN ?_ _ | refine blk_drew ?_ | refine blk_alloc ?_ _)); exact aa.out) Try.underlying23 rfl (by kernel_rfl)) rfl ?_
  exact ⟨by first | rfl | (simp [errW_none, errW_some] <;> rfl) | (simp [*, errW_none, errW_some] <;> rfl), by repeat (first | (with_reducible first | exact HB.out | apply below_alloc | apply pw_below_drewN | apply below_drew1 | refine below_set ?_ ac.out) | exact HB.out)⟩
 ·rw [if_neg c2] at H
  have c2b0 : (a0.toList == ([110, 111, 45, 101, 120, 112, 111, 114, 116] : List UInt8)) = false := beq_eq_false_iff_ne.mpr c2
  have c2b1 : (a0.toList != ([110, 111, 45, 101, 120, 112, 111, 114, 116] : List UInt8)) = true := bne_iff_ne.mpr c2
  by_cases c7 : a0.toList = ([110, 111, 45, 97, 100, 118, 101, 114, 116, 105, 115, 101] : List UInt8)
  ·rw [if_pos c7] at H
   have c7b0 : (a0.toList == ([110, 111, 45, 97, 100, 118, 101, 114, 116, 105, 115, 101] : List UInt8)) = true := beq_iff_eq.mpr c7
   have c7b1 : (a0.toList != ([110, 111, 45, 97, 100, 118, 101, 114, 116, 105, 115, 101] : List UInt8)) = false := bne_eq_false_iff_eq.mpr c7
   clear c7
   replace H := Option.bind_eq_some_iff.mp H
   obtain ⟨⟨t108, t109⟩, A80, H⟩ := H
   replace H : (some (t108, t109, 0)) = some (r1, r2, r3) := H
   have A8 := Aside0.mk A80
   clear A80
   simp only [Option.some.injEq, Prod.mk.injEq] at H
   obtain ⟨rfl, rfl, rfl⟩ := H
   go_enter Try.func10, Try.ntmps10
   go_wp2_with (first | ((with_reducible refine gate_dst (N := 2) rfl ?_); refine box_event ?hg (N := 2) ?hd (cs := #[.int .i64 0, .int .i64 0]) (t := 23) ?hr ?_; (case hd => rfl); (case hg => rfl); (case hr => first | (go_simp; done) | (go_simp; rfl)); intro ab hg w9 hbox hb; have n0_ := Aside0.mk (below_step (by repeat (first | (with_reducible first | exact HB.out | apply below_alloc | apply pw_below_drewN | apply below_drew1) | exact HB.out)) hb); have n1_ := Aside0.mk (hbox); have n2_ := Aside0.mk ((by rw [hg]; exact (below_size (by repeat (first | (with_reducible first | exact HB.out | apply below_alloc | apply pw_below_drewN | apply below_drew1) | exact HB.out))) : w.heap.size ≤ ab)); have n3_ := Aside0.mk ((by rw [hg]; exact (below_size (by repeat (first | (with_reducible first | exact HB.out | apply below_alloc | apply pw_below_drewN | apply below_drew1) | exact HB.out))) : w.heap.size ≤ ab)); clear HB; have HB := n0_; have aa := n1_; have GW105 := n2_; have ac := n3_; clear n0_ n1_ n2_ n3_; clear hb hbox hg) | ((with_reducible refine gate_callee (f := 17) rfl ?_); refine goesL_ (some 18) rfl rfl Try.func17 (by kernel_rfl) rfl #[] rfl (by (try simp only [List.map_toArray, List.map_cons, List.map_nil]); first | done | rfl) ?_; (with_reducible refine (comm_NoAdvertise.calls  t108 t109 _ A8.out).mono ?_); rintro e w10 ⟨rfl, hb⟩; refine ⟨_, rfl, ?_⟩; replace aa := Aside0.mk (blk_below (g := ab) (by (with_reducible repeat (first | refine blk_drewN ?_ _ | refine blk_drew ?_ | refine blk_alloc ?_ _)); exact aa.out) hb); replace HB := Aside0.mk (below_step (by repeat (first | (with_reducible first | exact HB.out | apply below_alloc | apply pw_below_drewN | apply below_drew1 | refine below_set ?_ ac.out) | exact HB.out)) hb); (try clear hb); (try clear hb2); (try clear hk); (try clear hi); have hcz11_0 : w10.cell? ⟨ab, 0, none⟩ = some (.int .i64 0) := (blk_cell aa.out 0).trans rfl; have hcz11_1 : w10.cell? ⟨ab, 1, none⟩ = some (.int .i64 0) := (blk_cell aa.out 1).trans rfl; have hfz11_0 := blk_frozen aa.out 0; have hfz11_1 := blk_frozen aa.out 1))
   refine bodyPost_ret (results_ct rfl _ _ ab 23 #[.int .i64 t108, .int .i64 t109] (0, 0) _ rfl (by (with_reducible repeat (first | refine blk_drewN ?_ _ | refine blk_drew ?_ | refine blk_alloc ?_ _)); refine blk_put (cs := #[.int .i64 t108, .int .i64 0]) ?_ 1 _ rfl; (with_reducible repeat (first | refine blk_drewN ?_ _ | refine blk_drew ?_ | refine blk_alloc ?_ _)); refine blk_put (cs := #[.int .i64 0, .int .i64 0]) ?_ 0 _ rfl; (with_reducible repeat (first | refine blk_drewN ?_ _ | refine blk_drew ?_ | refine blk_alloc ?_ _)); exact aa.out) Try.underlying23 rfl (by kernel_rfl)) rfl ?_
   exact ⟨by first | rfl | (simp [errW_none, errW_some] <;> rfl) | (simp [*, errW_none, errW_some] <;> rfl), by repeat (first | (with_reducible first | exact HB.out | apply below_alloc | apply pw_below_drewN | apply below_drew1 | refine below_set ?_ ac.out) | exact HB.out)⟩
  ·rw [if_neg c7] at H
   have c7b0 : (a0.toList == ([110, 111, 45, 97, 100, 118, 101, 114, 116, 105, 115, 101] : List UInt8)) = false := beq_eq_false_iff_ne.mpr c7
   have c7b1 : (a0.toList != ([110, 111, 45, 97, 100, 118, 101, 114, 116, 105, 115, 101] : List UInt8)) = true := bne_iff_ne.mpr c7
   by_cases af : a0.toList = ([108, 111, 99, 97, 108] : List UInt8)
   ·rw [if_pos af] at H
    have c12b0 : (a0.toList == ([108, 111, 99, 97, 108] : List UInt8)) = true := beq_iff_eq.mpr af
    have c12b1 : (a0.toList != ([108, 111, 99, 97, 108] : List UInt8)) = false := bne_eq_false_iff_eq.mpr af
    clear af
    replace H := Option.bind_eq_some_iff.mp H
    obtain ⟨⟨t110, t111⟩, A130, H⟩ := H
    replace H : (some (t110, t111, 0)) = some (r1, r2, r3) := H
    have A13 := Aside0.mk A130
    clear A130
    simp only [Option.some.injEq, Prod.mk.injEq] at H
    obtain ⟨rfl, rfl, rfl⟩ := H
    go_enter Try.func10, Try.ntmps10
    go_wp2_with (first | ((with_reducible refine gate_dst (N := 2) rfl ?_); refine box_event ?hg (N := 2) ?hd (cs := #[.int .i64 0, .int .i64 0]) (t := 23) ?hr ?_; (case hd => rfl); (case hg => rfl); (case hr => first | (go_simp; done) | (go_simp; rfl)); intro ab hg w14 hbox hb; have n0_ := Aside0.mk (below_step (by repeat (first | (with_reducible first | exact HB.out | apply below_alloc | apply pw_below_drewN | apply below_drew1) | exact HB.out)) hb); have n1_ := Aside0.mk (hbox); have n2_ := Aside0.mk ((by rw [hg]; exact (below_size (by repeat (first | (with_reducible first | exact HB.out | apply below_alloc | apply pw_below_drewN | apply below_drew1) | exact HB.out))) : w.heap.size ≤ ab)); have n3_ := Aside0.mk ((by rw [hg]; exact (below_size (by repeat (first | (with_reducible first | exact HB.out | apply below_alloc | apply pw_below_drewN | apply below_drew1) | exact HB.out))) : w.heap.size ≤ ab)); clear HB; have HB := n0_; have aa := n1_; have GW105 := n2_; have ac := n3_; clear n0_ n1_ n2_ n3_; clear hb hbox hg) | ((with_reducible refine gate_callee (f := 18) rfl ?_); refine goesL_ (some 21) rfl rfl Try.func18 (by kernel_rfl) rfl #[] rfl (by (try simp only [List.map_toArray, List.map_cons, List.map_nil]); first | done | rfl) ?_; (with_reducible refine (comm_Local.calls  t110 t111 _ A13.out).mono ?_); rintro e w15 ⟨rfl, hb⟩; refine ⟨_, rfl, ?_⟩; replace aa := Aside0.mk (blk_below (g := ab) (by (with_reducible repeat (first | refine blk_drewN ?_ _ | refine blk_drew ?_ | refine blk_alloc ?_ _)); exact aa.out) hb); replace HB := Aside0.mk (below_step (by repeat (first | (with_reducible first | exact HB.out | apply below_alloc | apply pw_below_drewN | apply below_drew1 | refine below_set ?_ ac.out) | exact HB.out)) hb); (try clear hb); (try clear hb2); (try clear hk); (try clear hi); have hcz16_0 : w15.cell? ⟨ab, 0, none⟩ = some (.int .i64 0) := (blk_cell aa.out 0).trans rfl; have hcz16_1 : w15.cell? ⟨ab, 1, none⟩ = some (.int .i64 0) := (blk_cell aa.out 1).trans rfl; have hfz16_0 := blk_frozen aa.out 0; have hfz16_1 := blk_frozen aa.out 1))
    refine bodyPost_ret (results_ct rfl _ _ ab 23 #[.int .i64 t110, .int .i64 t111] (0, 0) _ rfl (by (with_reducible repeat (first | refine blk_drewN ?_ _ | refine blk_drew ?_ | refine blk_alloc ?_ _)); refine blk_put (cs := #[.int .i64 t110, .int .i64 0]) ?_ 1 _ rfl; (with_reducible repeat (first | refine blk_drewN ?_ _ | refine blk_drew ?_ | refine blk_alloc ?_ _)); refine blk_put (cs := #[.int .i64 0, .int .i64 0]) ?_ 0 _ rfl; (with_reducible repeat (first | refine blk_drewN ?_ _ | refine blk_drew ?_ | refine blk_alloc ?_ _)); exact aa.out) Try.underlying23 rfl (by kernel_rfl)) rfl ?_
    exact ⟨by first | rfl | (simp [errW_none, errW_some] <;> rfl) | (simp [*, errW_none, errW_some] <;> rfl), by repeat (first | (with_reducible first | exact HB.out | apply below_alloc | apply pw_below_drewN | apply below_drew1 | refine below_set ?_ ac.out) | exact HB.out)⟩
   ·rw [if_neg af] at H
    have c12b0 : (a0.toList == ([108, 111, 99, 97, 108] : List UInt8)) = false := beq_eq_false_iff_ne.mpr af
    have c12b1 : (a0.toList != ([108, 111, 99, 97, 108] : List UInt8)) = true := bne_iff_ne.mpr af
    replace H := Option.bind_eq_some_iff.mp H
    obtain ⟨⟨t112, t113, t114⟩, A170, H⟩ := H
    (try dsimp only at H)
    have A17 := Aside0.mk A170
    clear A170
    replace H := Option.bind_eq_some_iff.mp H
    obtain ⟨⟨t115, t116⟩, A180, H⟩ := H
    (try dsimp only at H)
    have A18 := Aside0.mk A180
    clear A180
    replace H := Option.bind_eq_some_iff.mp H
    obtain ⟨⟨t117, t118⟩, A190, H⟩ := H
    (try dsimp only at H)
    have A19 := Aside0.mk A190
    clear A190
    have HC20 := Aside0.mk H
    clear H
    go_enter Try.func10, Try.ntmps10
    go_upto_region 11 with (first | ((with_reducible refine gate_dst (N := 2) rfl ?_); refine box_event ?hg (N := 2) ?hd (cs := #[.int .i64 0, .int .i64 0]) (t := 23) ?hr ?_; (case hd => rfl); (case hg => rfl); (case hr => first | (go_simp; done) | (go_simp; rfl)); intro ab hg w21 hbox hb; have n0_ := Aside0.mk (below_step (by repeat (first | (with_reducible first | exact HB.out | apply below_alloc | apply pw_below_drewN | apply below_drew1) | exact HB.out)) hb); have n1_ := Aside0.mk (hbox); have n2_ := Aside0.mk ((by rw [hg]; exact (below_size (by repeat (first | (with_reducible first | exact HB.out | apply below_alloc | apply pw_below_drewN | apply below_drew1) | exact HB.out))) : w.heap.size ≤ ab)); have n3_ := Aside0.mk ((by rw [hg]; exact (below_size (by repeat (first | (with_reducible first | exact HB.out | apply below_alloc | apply pw_below_drewN | apply below_drew1) | exact HB.out))) : w.heap.size ≤ ab)); clear HB; have HB := n0_; have aa := n1_; have GW105 := n2_; have ac := n3_; clear n0_ n1_ n2_ n3_; clear hb hbox hg) | ((with_reducible refine gate_callee (f := 34) rfl ?_); refine goesL_ (some 24) rfl rfl Try.func34 (by kernel_rfl) rfl #[.string a0, .string (⟨#[58]⟩ : ByteArray)] rfl (by (try simp only [List.map_toArray, List.map_cons, List.map_nil]); first | done | rfl) ?_; (with_reducible refine (strings_Cut.calls a0 (⟨#[58]⟩ : ByteArray) t112 t113 t114 _ A17.out).mono ?_); rintro e w22 ⟨rfl, hb⟩; refine ⟨_, rfl, ?_⟩; replace aa := Aside0.mk (blk_below (g := ab) (by (with_reducible repeat (first | refine blk_drewN ?_ _ | refine blk_drew ?_ | refine blk_alloc ?_ _)); exact aa.out) hb); replace HB := Aside0.mk (below_step (by repeat (first | (with_reducible first | exact HB.out | apply below_alloc | apply pw_below_drewN | apply below_drew1 | refine below_set ?_ ac.out) | exact HB.out)) hb); (try clear hb); (try clear hb2); (try clear hk); (try clear hi)) | ((with_reducible refine gate_callee (f := 35) rfl ?_); refine goesL_ (some 30) rfl rfl Try.func35 (by kernel_rfl) rfl #[.string t112] rfl (by (try simp only [List.map_toArray, List.map_cons, List.map_nil]); first | done | rfl) ?_; (with_reducible refine (comm_number.calls t112 t115 t116 _ A18.out).mono ?_); rintro e w23 ⟨rfl, hb⟩; refine ⟨_, rfl, ?_⟩; replace aa := Aside0.mk (blk_below (g := ab) (by (with_reducible repeat (first | refine blk_drewN ?_ _ | refine blk_drew ?_ | refine blk_alloc ?_ _)); exact aa.out) hb); replace HB := Aside0.mk (below_step (by repeat (first | (with_reducible first | exact HB.out | apply below_alloc | apply pw_below_drewN | apply below_drew1 | refine below_set ?_ ac.out) | exact HB.out)) hb); (try clear hb); (try clear hb2); (try clear hk); (try clear hi)) | ((with_reducible refine gate_callee (f := 35) rfl ?_); refine goesL_ (some 35) rfl rfl Try.func35 (by kernel_rfl) rfl #[.string t113] rfl (by (try simp only [List.map_toArray, List.map_cons, List.map_nil]); first | done | rfl) ?_; (with_reducible refine (comm_number.calls t113 t117 t118 _ A19.out).mono ?_); rintro e w24 ⟨rfl, hb⟩; refine ⟨_, rfl, ?_⟩; replace aa := Aside0.mk (blk_below (g := ab) (by (with_reducible repeat (first | refine blk_drewN ?_ _ | refine blk_drew ?_ | refine blk_alloc ?_ _)); exact aa.out) hb); replace HB := Aside0.mk (below_step (by repeat (first | (with_reducible first | exact HB.out | apply below_alloc | apply pw_below_drewN | apply below_drew1 | refine below_set ?_ ac.out) | exact HB.out)) hb); (try clear hb); (try clear hb2); (try clear hk); (try clear hi)))
    (try simp only [Act.put, List.setIfInBounds_toArray, List.set_cons_zero, List.set_cons_succ])
    go_cut [47] (fun v47 wc => ∃ (kq : Nat) (x47_19 : Bool), v47 = .bool x47_19 ∧ Aside0 (comm_Parse.j0 kq t115 t117 x47_19 = some (r1, r2, r3)) ∧ Aside0 (kq ≤ k) ∧ Aside0 (wc.heap[ab]? = some (.cells #[.int .i64 0, .int .i64 0] 23 (0, 0))) ∧ Aside0 (Below w.heap.size w wc))
    case first =>
     have H := HC20.out
     clear HC20
     by_cases c25 : t114 = true
     ·subst c25
      have H1 : (if t116 = true then (comm_Parse.j0 k t115 t117 (!t118)) else (comm_Parse.j0 k t115 t117 true)) = some (r1, r2, r3) := by rw [if_pos rfl] at H; exact H
      clear H
      have H := H1
      clear H1
      by_cases c26 : t116 = true
      ·subst c26
       have H1 : (comm_Parse.j0 k t115 t117 (!t118)) = some (r1, r2, r3) := by rw [if_pos rfl] at H; exact H
       clear H
       have H := H1
       clear H1
       have H' := Aside0.mk H
       clear H
       go_wp2
       go_meet
       case rel => exact ⟨_, (!t118), (by first | rfl | (simp; done) | (simp [*]; done)), H', ⟨by first | omega | exact Nat.le_refl _⟩, ⟨by (with_reducible repeat (first | refine blk_drewN ?_ _ | refine blk_drew ?_ | refine blk_alloc ?_ _)); exact aa.out⟩, ⟨by repeat (first | (with_reducible first | exact HB.out | apply below_alloc | apply pw_below_drewN | apply below_drew1 | refine below_set ?_ ac.out) | exact HB.out)⟩⟩
      ·replace c26 := Bool.eq_false_iff.mpr c26
       subst c26
       have H1 : (comm_Parse.j0 k t115 t117 true) = some (r1, r2, r3) := by rw [if_neg (show ¬ (false = true) by decide)] at H; exact H
       clear H
       have H := H1
       clear H1
       have H' := Aside0.mk H
       clear H
       go_wp2
       go_meet
       case rel => exact ⟨_, (true), (by first | rfl | (simp; done) | (simp [*]; done)), H', ⟨by first | omega | exact Nat.le_refl _⟩, ⟨by (with_reducible repeat (first | refine blk_drewN ?_ _ | refine blk_drew ?_ | refine blk_alloc ?_ _)); exact aa.out⟩, ⟨by repeat (first | (with_reducible first | exact HB.out | apply below_alloc | apply pw_below_drewN | apply below_drew1 | refine below_set ?_ ac.out) | exact HB.out)⟩⟩
     ·replace c25 := Bool.eq_false_iff.mpr c25
      subst c25
      have H1 : (comm_Parse.j0 k t115 t117 true) = some (r1, r2, r3) := by rw [if_neg (show ¬ (false = true) by decide)] at H; exact H
      clear H
      have H := H1
      clear H1
      have H' := Aside0.mk H
      clear H
      go_wp2
      go_meet
      case rel => exact ⟨_, (true), (by first | rfl | (simp; done) | (simp [*]; done)), H', ⟨by first | omega | exact Nat.le_refl _⟩, ⟨by (with_reducible repeat (first | refine blk_drewN ?_ _ | refine blk_drew ?_ | refine blk_alloc ?_ _)); exact aa.out⟩, ⟨by repeat (first | (with_reducible first | exact HB.out | apply below_alloc | apply pw_below_drewN | apply below_drew1 | refine below_set ?_ ac.out) | exact HB.out)⟩⟩
    case rest =>
     clear HC20
     try clear c1
     try clear c2
     try clear c2b0
     try clear c2b1
     try clear p2
     try clear c3
     try clear c7
     try clear c7b0
     try clear c7b1
     try clear c10
     try clear af
     try clear c12b0
     try clear c12b1
     try clear c16
     try clear c17
     try clear c18
     try clear c25
     try clear c26
     try clear hcz11_0
     try clear hcz11_1
     try clear hcz16_0
     try clear hcz16_1
     try clear hcz6_0
     try clear hcz6_1
     try clear hfz11_0
     try clear hfz11_1
     try clear hfz16_0
     try clear hfz16_1
     try clear hfz6_0
     try clear hfz6_1
     obtain ⟨kq, x47_19, rfl, HA, HJ19, aa, HB⟩ := hcut
     cases kq with
     | zero => exact absurd HA.out (by simp [comm_Parse.j0])
     | succ kj19 =>
      have H := HA.out
      clear HA
      simp only [comm_Parse.j0] at H
      by_cases c27 : x47_19 = true
      ·subst c27
       have H1 : (some (0, 0, 4)) = some (r1, r2, r3) := by rw [if_pos rfl] at H; exact H
       clear H
       have H := H1
       clear H1
       simp only [Option.some.injEq, Prod.mk.injEq] at H
       obtain ⟨rfl, rfl, rfl⟩ := H
       have hcz28_0 : wc.cell? ⟨ab, 0, none⟩ = some (.int .i64 0) := (blk_cell aa.out 0).trans rfl
       have hcz28_1 : wc.cell? ⟨ab, 1, none⟩ = some (.int .i64 0) := (blk_cell aa.out 1).trans rfl
       have hfz28_0 := blk_frozen aa.out 0
       have hfz28_1 := blk_frozen aa.out 1
       go_wp2
       refine bodyPost_ret (results_ct rfl _ _ ab 23 #[.int .i64 0, .int .i64 0] (0, 0) _ rfl (by (with_reducible repeat (first | refine blk_drewN ?_ _ | refine blk_drew ?_ | refine blk_alloc ?_ _)); refine blk_put (cs := #[.int .i64 0, .int .i64 0]) ?_ 1 _ rfl; (with_reducible repeat (first | refine blk_drewN ?_ _ | refine blk_drew ?_ | refine blk_alloc ?_ _)); refine blk_put (cs := #[.int .i64 0, .int .i64 0]) ?_ 0 _ rfl; (with_reducible repeat (first | refine blk_drewN ?_ _ | refine blk_drew ?_ | refine blk_alloc ?_ _)); exact aa.out) Try.underlying23 rfl (by kernel_rfl)) rfl ?_
       exact ⟨by first | rfl | (simp [errW_none, errW_some] <;> rfl) | (simp [*, errW_none, errW_some] <;> rfl), by repeat (first | (with_reducible first | exact HB.out | apply below_alloc | apply pw_below_drewN | apply below_drew1 | refine below_set ?_ ac.out) | exact HB.out)⟩
      ·replace c27 := Bool.eq_false_iff.mpr c27
       subst c27
       have H1 : ((comm_May.f t115 t117).bind fun t120 => (if t120 = true then (some (t115, t117, 0)) else (some (0, 0, 7)))) = some (r1, r2, r3) := by rw [if_neg (show ¬ (false = true) by decide)] at H; exact H
       clear H
       have H := H1
       clear H1
       replace H := Option.bind_eq_some_iff.mp H
       obtain ⟨t120, A290, H⟩ := H
       replace H : (if t120 = true then (some (t115, t117, 0)) else (some (0, 0, 7))) = some (r1, r2, r3) := H
       have A29 := Aside0.mk A290
       clear A290
       by_cases c30 : t120 = true
       ·subst c30
        have H1 : (some (t115, t117, 0)) = some (r1, r2, r3) := by rw [if_pos rfl] at H; exact H
        clear H
        have H := H1
        clear H1
        simp only [Option.some.injEq, Prod.mk.injEq] at H
        obtain ⟨rfl, rfl, rfl⟩ := H
        go_wp2_with (first | ((with_reducible refine gate_dst (N := 11) rfl ?_); refine box_event ?hg (N := 11) ?hd (cs := #[.int .i64 0, .int .i64 0]) (t := 23) ?hr ?_; (case hd => rfl); (case hg => rfl); (case hr => first | (go_simp; done) | (go_simp; rfl)); intro ad hg w31 hbox hb; have n0_ := Aside0.mk (blk_below (g := ab) (by (with_reducible repeat (first | refine blk_drewN ?_ _ | refine blk_drew ?_ | refine blk_alloc ?_ _)); exact aa.out) hb); have n1_ := Aside0.mk (below_step (by repeat (first | (with_reducible first | exact HB.out | apply below_alloc | apply pw_below_drewN | apply below_drew1 | refine below_set ?_ ac.out) | exact HB.out)) hb); have n2_ := Aside0.mk (hbox); have n3_ := Aside0.mk ((by rw [hg]; exact (below_size (by repeat (first | (with_reducible first | exact HB.out | apply below_alloc | apply pw_below_drewN | apply below_drew1 | refine below_set ?_ ac.out) | exact HB.out))) : w.heap.size ≤ ad)); have n4_ := Aside0.mk ((by rw [hg]; exact (below_size (by repeat (first | (with_reducible first | exact HB.out | apply below_alloc | apply pw_below_drewN | apply below_drew1 | refine below_set ?_ ac.out) | exact HB.out))) : w.heap.size ≤ ad)); have n5_ := Aside0.mk ((by rw [hg]; exact Nat.ne_of_lt (blk_lt (g := ab) (o := .cells #[.int .i64 0, .int .i64 0] 23 (0, 0)) (by (with_reducible repeat (first | refine blk_drewN ?_ _ | refine blk_drew ?_ | refine blk_alloc ?_ _)); exact aa.out)) : ab ≠ ad)); have n6_ := Aside0.mk ((by rw [hg]; exact Nat.ne_of_gt (blk_lt (g := ab) (o := .cells #[.int .i64 0, .int .i64 0] 23 (0, 0)) (by (with_reducible repeat (first | refine blk_drewN ?_ _ | refine blk_drew ?_ | refine blk_alloc ?_ _)); exact aa.out)) : ad ≠ ab)); clear aa; clear HB; have aa := n0_; have HB := n1_; have ae := n2_; have GW119 := n3_; have GE119 := n4_; have NB105_119 := n5_; have NB119_105 := n6_; clear n0_ n1_ n2_ n3_ n4_ n5_ n6_; clear hb hbox hg; have hnb32 := NB119_105.out; have hnc32 := NB105_119.out; have hcz33_0 : w31.cell? ⟨ad, 0, none⟩ = some (.int .i64 0) := (blk_cell ae.out 0).trans rfl; have hcz33_1 : w31.cell? ⟨ad, 1, none⟩ = some (.int .i64 0) := (blk_cell ae.out 1).trans rfl; have hfz33_0 := blk_frozen ae.out 0; have hfz33_1 := blk_frozen ae.out 1) | ((with_reducible refine gate_callee (f := 12) rfl ?_); refine goesL_ (some 53) rfl rfl Try.func12 (by kernel_rfl) rfl #[.agg #[.int .i64 t115, .int .i64 t117]] rfl (by (try simp only [List.map_toArray, List.map_cons, List.map_nil]); first | done | rfl) ?_; (with_reducible refine (comm_May.calls t115 t117 true _ A29.out).mono ?_); rintro e w34 ⟨rfl, hb⟩; refine ⟨_, rfl, ?_⟩; replace aa := Aside0.mk (blk_below (g := ab) (o := .cells #[.int .i64 0, .int .i64 0] 23 (0, 0)) (by (with_reducible repeat (first | refine blk_drewN ?_ _ | refine blk_drew ?_ | refine blk_alloc ?_ _)); refine blk_far ?_ NB105_119.out _; (with_reducible repeat (first | refine blk_drewN ?_ _ | refine blk_drew ?_ | refine blk_alloc ?_ _)); refine blk_far ?_ NB105_119.out _; (with_reducible repeat (first | refine blk_drewN ?_ _ | refine blk_drew ?_ | refine blk_alloc ?_ _)); exact aa.out) hb); replace ae := Aside0.mk (blk_below (g := ad) (o := .cells #[.int .i64 t115, .int .i64 t117] 23 (0, 0)) (by (with_reducible repeat (first | refine blk_drewN ?_ _ | refine blk_drew ?_ | refine blk_alloc ?_ _)); refine blk_put (cs := #[.int .i64 t115, .int .i64 0]) ?_ 1 _ rfl; (with_reducible repeat (first | refine blk_drewN ?_ _ | refine blk_drew ?_ | refine blk_alloc ?_ _)); refine blk_put (cs := #[.int .i64 0, .int .i64 0]) ?_ 0 _ rfl; (with_reducible repeat (first | refine blk_drewN ?_ _ | refine blk_drew ?_ | refine blk_alloc ?_ _)); exact ae.out) hb); replace HB := Aside0.mk (below_step (by repeat (first | (with_reducible first | exact HB.out | apply below_alloc | apply pw_below_drewN | apply below_drew1 | refine below_set ?_ ac.out | refine below_set ?_ GE119.out) | exact HB.out)) hb); (try clear hb); (try clear hb2); (try clear hk); (try clear hi); have hcz35_0 : w34.cell? ⟨ad, 0, none⟩ = some (.int .i64 t115) := (blk_cell ae.out 0).trans rfl; have hcz35_1 : w34.cell? ⟨ad, 1, none⟩ = some (.int .i64 t117) := (blk_cell ae.out 1).trans rfl; have hfz35_0 := blk_frozen ae.out 0; have hfz35_1 := blk_frozen ae.out 1; have hcz36_0 : w34.cell? ⟨ab, 0, none⟩ = some (.int .i64 0) := (blk_cell aa.out 0).trans rfl; have hcz36_1 : w34.cell? ⟨ab, 1, none⟩ = some (.int .i64 0) := (blk_cell aa.out 1).trans rfl; have hfz36_0 := blk_frozen aa.out 0; have hfz36_1 := blk_frozen aa.out 1))
        refine bodyPost_ret (results_ct rfl _ _ ab 23 #[.int .i64 t115, .int .i64 t117] (0, 0) _ rfl (by (with_reducible repeat (first | refine blk_drewN ?_ _ | refine blk_drew ?_ | refine blk_alloc ?_ _)); refine blk_put (cs := #[.int .i64 t115, .int .i64 0]) ?_ 1 _ rfl; (with_reducible repeat (first | refine blk_drewN ?_ _ | refine blk_drew ?_ | refine blk_alloc ?_ _)); refine blk_put (cs := #[.int .i64 0, .int .i64 0]) ?_ 0 _ rfl; (with_reducible repeat (first | refine blk_drewN ?_ _ | refine blk_drew ?_ | refine blk_alloc ?_ _)); exact aa.out) Try.underlying23 rfl (by kernel_rfl)) rfl ?_
        exact ⟨by first | rfl | (simp [errW_none, errW_some] <;> rfl) | (simp [*, errW_none, errW_some] <;> rfl), by repeat (first | (with_reducible first | exact HB.out | apply below_alloc | apply pw_below_drewN | apply below_drew1 | refine below_set ?_ ac.out | refine below_set ?_ GE119.out) | exact HB.out)⟩
       ·replace c30 := Bool.eq_false_iff.mpr c30
        subst c30
        have H1 : (some (0, 0, 7)) = some (r1, r2, r3) := by rw [if_neg (show ¬ (false = true) by decide)] at H; exact H
        clear H
        have H := H1
        clear H1
        simp only [Option.some.injEq, Prod.mk.injEq] at H
        obtain ⟨rfl, rfl, rfl⟩ := H
        go_wp2_with (first | ((with_reducible refine gate_dst (N := 11) rfl ?_); refine box_event ?hg (N := 11) ?hd (cs := #[.int .i64 0, .int .i64 0]) (t := 23) ?hr ?_; (case hd => rfl); (case hg => rfl); (case hr => first | (go_simp; done) | (go_simp; rfl)); intro ad hg w37 hbox hb; have n0_ := Aside0.mk (blk_below (g := ab) (by (with_reducible repeat (first | refine blk_drewN ?_ _ | refine blk_drew ?_ | refine blk_alloc ?_ _)); exact aa.out) hb); have n1_ := Aside0.mk (below_step (by repeat (first | (with_reducible first | exact HB.out | apply below_alloc | apply pw_below_drewN | apply below_drew1 | refine below_set ?_ ac.out) | exact HB.out)) hb); have n2_ := Aside0.mk (hbox); have n3_ := Aside0.mk ((by rw [hg]; exact (below_size (by repeat (first | (with_reducible first | exact HB.out | apply below_alloc | apply pw_below_drewN | apply below_drew1 | refine below_set ?_ ac.out) | exact HB.out))) : w.heap.size ≤ ad)); have n4_ := Aside0.mk ((by rw [hg]; exact (below_size (by repeat (first | (with_reducible first | exact HB.out | apply below_alloc | apply pw_below_drewN | apply below_drew1 | refine below_set ?_ ac.out) | exact HB.out))) : w.heap.size ≤ ad)); have n5_ := Aside0.mk ((by rw [hg]; exact Nat.ne_of_lt (blk_lt (g := ab) (o := .cells #[.int .i64 0, .int .i64 0] 23 (0, 0)) (by (with_reducible repeat (first | refine blk_drewN ?_ _ | refine blk_drew ?_ | refine blk_alloc ?_ _)); exact aa.out)) : ab ≠ ad)); have n6_ := Aside0.mk ((by rw [hg]; exact Nat.ne_of_gt (blk_lt (g := ab) (o := .cells #[.int .i64 0, .int .i64 0] 23 (0, 0)) (by (with_reducible repeat (first | refine blk_drewN ?_ _ | refine blk_drew ?_ | refine blk_alloc ?_ _)); exact aa.out)) : ad ≠ ab)); clear aa; clear HB; have aa := n0_; have HB := n1_; have ae := n2_; have GW119 := n3_; have GE119 := n4_; have NB105_119 := n5_; have NB119_105 := n6_; clear n0_ n1_ n2_ n3_ n4_ n5_ n6_; clear hb hbox hg; have hnb38 := NB119_105.out; have hnc38 := NB105_119.out; have hcz39_0 : w37.cell? ⟨ad, 0, none⟩ = some (.int .i64 0) := (blk_cell ae.out 0).trans rfl; have hcz39_1 : w37.cell? ⟨ad, 1, none⟩ = some (.int .i64 0) := (blk_cell ae.out 1).trans rfl; have hfz39_0 := blk_frozen ae.out 0; have hfz39_1 := blk_frozen ae.out 1) | ((with_reducible refine gate_callee (f := 12) rfl ?_); refine goesL_ (some 53) rfl rfl Try.func12 (by kernel_rfl) rfl #[.agg #[.int .i64 t115, .int .i64 t117]] rfl (by (try simp only [List.map_toArray, List.map_cons, List.map_nil]); first | done | rfl) ?_; (with_reducible refine (comm_May.calls t115 t117 false _ A29.out).mono ?_); rintro e w40 ⟨rfl, hb⟩; refine ⟨_, rfl, ?_⟩; replace aa := Aside0.mk (blk_below (g := ab) (o := .cells #[.int .i64 0, .int .i64 0] 23 (0, 0)) (by (with_reducible repeat (first | refine blk_drewN ?_ _ | refine blk_drew ?_ | refine blk_alloc ?_ _)); refine blk_far ?_ NB105_119.out _; (with_reducible repeat (first | refine blk_drewN ?_ _ | refine blk_drew ?_ | refine blk_alloc ?_ _)); refine blk_far ?_ NB105_119.out _; (with_reducible repeat (first | refine blk_drewN ?_ _ | refine blk_drew ?_ | refine blk_alloc ?_ _)); exact aa.out) hb); replace ae := Aside0.mk (blk_below (g := ad) (o := .cells #[.int .i64 t115, .int .i64 t117] 23 (0, 0)) (by (with_reducible repeat (first | refine blk_drewN ?_ _ | refine blk_drew ?_ | refine blk_alloc ?_ _)); refine blk_put (cs := #[.int .i64 t115, .int .i64 0]) ?_ 1 _ rfl; (with_reducible repeat (first | refine blk_drewN ?_ _ | refine blk_drew ?_ | refine blk_alloc ?_ _)); refine blk_put (cs := #[.int .i64 0, .int .i64 0]) ?_ 0 _ rfl; (with_reducible repeat (first | refine blk_drewN ?_ _ | refine blk_drew ?_ | refine blk_alloc ?_ _)); exact ae.out) hb); replace HB := Aside0.mk (below_step (by repeat (first | (with_reducible first | exact HB.out | apply below_alloc | apply pw_below_drewN | apply below_drew1 | refine below_set ?_ ac.out | refine below_set ?_ GE119.out) | exact HB.out)) hb); (try clear hb); (try clear hb2); (try clear hk); (try clear hi); have hcz41_0 : w40.cell? ⟨ab, 0, none⟩ = some (.int .i64 0) := (blk_cell aa.out 0).trans rfl; have hcz41_1 : w40.cell? ⟨ab, 1, none⟩ = some (.int .i64 0) := (blk_cell aa.out 1).trans rfl; have hfz41_0 := blk_frozen aa.out 0; have hfz41_1 := blk_frozen aa.out 1))
        refine bodyPost_ret (results_ct rfl _ _ ab 23 #[.int .i64 0, .int .i64 0] (0, 0) _ rfl (by (with_reducible repeat (first | refine blk_drewN ?_ _ | refine blk_drew ?_ | refine blk_alloc ?_ _)); refine blk_put (cs := #[.int .i64 0, .int .i64 0]) ?_ 1 _ rfl; (with_reducible repeat (first | refine blk_drewN ?_ _ | refine blk_drew ?_ | refine blk_alloc ?_ _)); refine blk_put (cs := #[.int .i64 0, .int .i64 0]) ?_ 0 _ rfl; (with_reducible repeat (first | refine blk_drewN ?_ _ | refine blk_drew ?_ | refine blk_alloc ?_ _)); exact aa.out) Try.underlying23 rfl (by kernel_rfl)) rfl ?_
        exact ⟨by first | rfl | (simp [errW_none, errW_some] <;> rfl) | (simp [*, errW_none, errW_some] <;> rfl), by repeat (first | (with_reducible first | exact HB.out | apply below_alloc | apply pw_below_drewN | apply below_drew1 | refine below_set ?_ ac.out | refine below_set ?_ GE119.out) | exact HB.out)⟩

end Go.Proofs.Ytikjfonedddlpaa.P

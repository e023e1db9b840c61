/- Part of the proof of RowAddrPlain: what it asks of functions, words and plain facts (put together by this session's own program, wip/tools/shake.py). -/
import Derived.Test.YtckffheolnmcnaaZAddrPlain0
import Derived.Test.YtckffheolnmcnaaZAddrPlain1
import Derived.Test.YtckffheolnmcnaaZAddrPlain2
import Derived.Test.YtckffheolnmcnaaZAddrPlain3
import Derived.Test.YtckffheolnmcnaaZAddrPlain4
import Derived.Deep.Slices
import Derived.ChangeArms
import Derived.OpenShut
import Derived.SizedLaws
import Derived.KernelRfl
section
namespace Go.Proofs.Ytckffheolnmcnaa.P
open Go.RowKit Go.Proofs.YtckffheolnmcnaaW.PrintWords Go.Proofs.YtckffheolnmcnaaW.PrintLast Go.Proofs.YtckffheolnmcnaaW.PrintMore
attribute [local go_sem] max2_int min2_int max_two min_two max_three min_three max_four min_four   -- for this text's walks alone
set_option linter.unusedVariables false
set_option linter.unusedSimpArgs false

def whirligigref01_last.l0 : Nat → Int → Int → Int → Int → Int → Option (Int)
  | 0, _, _, _, _, _ => none
  | k + 1, x3, x4, x5, x194000, x194001 => if x5 ≥ x194001 then (whirligigref01_last.l0 k ((x3 + x4) % 4294967296) ((x4 * 2) % 4294967296) (wrap64 (x5 - 1)) x194000 x194001) else (some x3)
def whirligigref01_last.f (k : Nat) (a0_0 : Int) (a0_1 : Int) : Option (Int) := whirligigref01_last.l0 k a0_0 1 31 a0_0 a0_1
set_option maxHeartbeats 8000000 in
set_option maxRecDepth 100000 in
theorem whirligigref01_last.calls (k : Nat) (a0_0 : Int) (a0_1 : Int) (r : Int) (w : World) (h : whirligigref01_last.f k a0_0 a0_1 = some r) :
    Calls Try.prog 33 #[.agg #[.int .u32 a0_0, .int .i64 a0_1]] w fun e w' => e = .returned (.int .u32 r) ∧ Below w.heap.size w w' := by
  have hu30 := Try.underlying30
  have HB := Aside0.mk (Below.refl w.heap.size w)
  have H : (whirligigref01_last.l0 k a0_0 1 31 a0_0 a0_1) = some r := h
  clear h
  have H' := Aside0.mk H
  clear H
  go_enter Try.func33, Try.ntmps33
  go_wp2_with (first | ((with_reducible refine gate_dst (N := 1) rfl ?_); refine box_event ?hg (N := 1) ?hd (cs := #[.int .u32 a0_0, .int .i64 a0_1]) (t := 30) ?hr ?_; (case hd => rfl); (case hg => rfl); (case hr => first | (go_simp; done) | (go_simp; rfl)); intro gb193 hg w2 hbox hb; have n0_ := Aside0.mk (below_step (by repeat (first | (with_reducible first | exact HB.out | apply below_alloc | apply pw_below_drewN | apply below_drew1) | exact HB.out)) hb); have n1_ := Aside0.mk (hbox); have n2_ := Aside0.mk ((by rw [hg]; exact (below_size (by repeat (first | (with_reducible first | exact HB.out | apply below_alloc | apply pw_below_drewN | apply below_drew1) | exact HB.out))) : w.heap.size ≤ gb193)); have n3_ := Aside0.mk ((by rw [hg]; exact (below_size (by repeat (first | (with_reducible first | exact HB.out | apply below_alloc | apply pw_below_drewN | apply below_drew1) | exact HB.out))) : w.heap.size ≤ gb193)); clear HB; have HB := n0_; have BK193 := n1_; have GW193 := n2_; have GE193 := n3_; clear n0_ n1_ n2_ n3_; clear hb hbox hg; have hcz3_0 : w2.cell? ⟨gb193, 0, none⟩ = some (.int .u32 a0_0) := (blk_cell BK193.out 0).trans rfl; have hcz3_1 : w2.cell? ⟨gb193, 1, none⟩ = some (.int .i64 a0_1) := (blk_cell BK193.out 1).trans rfl; have hfz3_0 := blk_frozen BK193.out 0; have hfz3_1 := blk_frozen BK193.out 1))
  go_loopg [3, 4, 5] k (fun kq v3 v4 v5 w' => ∃ (x3_1 : Int) (x4_1 : Int) (x5_1 : Int), v3 = .int .u32 x3_1 ∧ v4 = .int .u32 x4_1 ∧ v5 = .int .i64 x5_1 ∧ Aside0 (whirligigref01_last.l0 kq x3_1 x4_1 x5_1 a0_0 a0_1 = some r) ∧ Aside0 (kq ≤ k) ∧ Aside0 (w'.heap[gb193]? = some (.cells #[.int .u32 a0_0, .int .i64 a0_1] 30 (0, 0))) ∧ Aside0 (Below w.heap.size w w'))
  case atStart => exact ⟨(a0_0), (1), (31), (by first | rfl | (simp; done) | (simp [*]; done)), (by first | rfl | (simp; done) | (simp [*]; done)), (by first | rfl | (simp; done) | (simp [*]; done)), H', ⟨Nat.le_refl _⟩, ⟨by (with_reducible repeat (first | refine blk_drewN ?_ _ | refine blk_drew ?_ | refine blk_alloc ?_ _)); exact BK193.out⟩, ⟨by repeat (first | (with_reducible first | exact HB.out | apply below_alloc | apply pw_below_drewN | apply below_drew1 | refine below_set ?_ GE193.out) | exact HB.out)⟩⟩
  case round =>
    clear H'
    try clear p2
    try clear c3
    try clear hcz3_0
    try clear hcz3_1
    try clear hfz3_0
    try clear hfz3_1
    obtain ⟨x3_1, x4_1, x5_1, rfl, rfl, rfl, HA, HK1, BK193, HB⟩ := hrel
    cases gk with
    | zero => exact absurd HA.out (by simp [whirligigref01_last.l0])
    | succ k1 =>
      have H := HA.out
      clear HA
      simp only [whirligigref01_last.l0] at H
      by_cases c4 : x5_1 ≥ a0_1
      · rw [if_pos c4] at H
        have c4b0 : decide (a0_1 ≤ x5_1) = true := decide_eq_true c4
        clear c4
        have H' := Aside0.mk H
        clear H
        have hcz5_0 : wr.cell? ⟨gb193, 0, none⟩ = some (.int .u32 a0_0) := (blk_cell BK193.out 0).trans rfl
        have hcz5_1 : wr.cell? ⟨gb193, 1, none⟩ = some (.int .i64 a0_1) := (blk_cell BK193.out 1).trans rfl
        have hfz5_0 := blk_frozen BK193.out 0
        have hfz5_1 := blk_frozen BK193.out 1
        go_wp2
        go_roundg k1
        case measure => have := HK1.out; omega
        case rel => exact ⟨((x3_1 + x4_1) % 4294967296), ((x4_1 * 2) % 4294967296), (wrap64 (x5_1 - 1)), (by first | rfl | (simp; done) | (simp [*]; done)), (by first | rfl | (simp; done) | (simp [*]; done)), (by first | rfl | (simp; done) | (simp [*]; done)), H', ⟨by have := HK1.out; omega⟩, ⟨by (with_reducible repeat (first | refine blk_drewN ?_ _ | refine blk_drew ?_ | refine blk_alloc ?_ _)); exact BK193.out⟩, ⟨by repeat (first | (with_reducible first | exact HB.out | apply below_alloc | apply pw_below_drewN | apply below_drew1 | refine below_set ?_ GE193.out) | exact HB.out)⟩⟩
      · rw [if_neg c4] at H
        have c4b0 : decide (a0_1 ≤ x5_1) = false := decide_eq_false c4
        clear c4
        obtain rfl := Option.some.inj H
        have hcz6_0 : wr.cell? ⟨gb193, 0, none⟩ = some (.int .u32 a0_0) := (blk_cell BK193.out 0).trans rfl
        have hcz6_1 : wr.cell? ⟨gb193, 1, none⟩ = some (.int .i64 a0_1) := (blk_cell BK193.out 1).trans rfl
        have hfz6_0 := blk_frozen BK193.out 0
        have hfz6_1 := blk_frozen BK193.out 1
        go_wp2
        go_ret
        exact ⟨by first | rfl | (simp [errW_none, errW_some] <;> rfl) | (simp [*, errW_none, errW_some] <;> rfl), by repeat (first | (with_reducible first | exact HB.out | apply below_alloc | apply pw_below_drewN | apply below_drew1 | refine below_set ?_ GE193.out) | exact HB.out)⟩

def whirligigref01_Edges.l0 : Nat → List (S30) → List Int → Int → Option (List Int)
  | 0, _, _, _ => none
  | k + 1, x0, x3, x4 => if x4 < (x0.length : Int) then (if 0 ≤ x4 then ((whirligigref01_last.f k ((rd_T30 x0 x4).f0) ((rd_T30 x0 x4).f1)).bind fun t200 => ((whirligigref01_last.f k ((rd_T30 x0 x4).f0) ((rd_T30 x0 x4).f1)).bind fun t202 => ((some (([(rd_T30 x0 x4).f0, (((rd_T30 x0 x4).f0) - 1) % 4294967296, t200, (t202 + 1) % 4294967296] : List Int) : List Int)).bind fun y203 => (if x3.length + y203.length < 35184372088832 then (whirligigref01_Edges.l0 k x0 (x3 ++ y203) (wrap64 (x4 + 1))) else (none))))) else (none)) else (some x3)
def whirligigref01_Edges.f (k : Nat) (l0 : List (S30)) : Option (List Int) := whirligigref01_Edges.l0 k l0 (([0, 4294967295] : List Int)) 0
def whirligigref01_Edges.T5 : Bool × List (List Nat × List Nat) := (true, [([], []), ([], []), ([], []), ([1, 2], [1, 2]), ([3], [3]), ([4], [4]), ([], []), ([], []), ([6, 7], [6, 7]), ([8], [8]), ([9], [9]), ([10], [10]), ([], []), ([], []), ([12, 13], [12, 13]), ([14], [14]), ([15], [15]), ([], []), ([], []), ([17, 18], [17, 18]), ([19], [19]), ([20, 16], [20]), ([21], [21]), ([5, 11, 16, 22], [5, 11, 16, 22]), ([0, 23, 21], [0, 23]), ([24, 24, 0, 1, 2, 3, 4, 5, 6, 7, 8, 9, 10, 11, 12, 13, 14, 15, 16, 17, 18, 19, 20, 21, 22, 23, 24], [0, 24])])
def whirligigref01_Edges.B5 : List Nat := [0, 0, 0, 6, 14, 30, 0, 0, 192, 448, 960, 1984, 0, 0, 12288, 28672, 61440, 0, 0, 393216, 917504, 2093056, 4190208, 8388606, 16777215, 33554431]
theorem whirligigref01_Edges.tab5 : rtab .any (opsOf Try.f13 5) = whirligigref01_Edges.T5 := by kernel_rfl
theorem whirligigref01_Edges.bits5 : waitsOk whirligigref01_Edges.T5.2 whirligigref01_Edges.B5 = true := by kernel_rfl
set_option maxHeartbeats 8000000 in
set_option maxRecDepth 100000 in
theorem whirligigref01_Edges.calls (k : Nat) (A0 : Option Addr) (c0 : Nat) (l0 : List (S30)) (r : List Int) (w : World) (hr0 : Kd.C k30 w A0 l0.length l0) (hc0 : l0.length ≤ c0) (h : whirligigref01_Edges.f k l0 = some r) :
  Calls Try.prog 13 #[.slice A0 l0.length c0] w fun e w' => ∃ v0_ : Value, e = .returned (v0_) ∧ Kd.R (Kd.int .u32) 23 w' w.heap.size (fun _ => True) v0_ r ∧ Below w.heap.size w w' := by
 have hu30 := Try.underlying30
 have HR0 := Aside0.mk hr0
 have HC0 := Aside0.mk hc0
 clear hr0 hc0
 have HB := Aside0.mk (Below.refl w.heap.size w)
 have H : (whirligigref01_Edges.l0 k l0 (([0, 4294967295] : List Int)) 0) = some r := h
 clear h
 obtain ⟨y194, hy194⟩ : ∃ y_ : List Int, y_ = (([0, 4294967295] : List Int)) := ⟨_, rfl⟩
 replace H : (whirligigref01_Edges.l0 k l0 y194 0) = some r := by first | (rw [hy194]; with_reducible exact H) | (have H2_ := (Option.bind_some _ _).symm.trans H; rw [hy194]; with_reducible exact H2_) | (have H2_ := (Option.bind_some _ _).symm.trans H; with_reducible exact H2_) | with_reducible exact H | (rw [hy194]; exact H) | exact H
 have Ny194 := Aside0.mk hy194
 clear hy194
 have H' := Aside0.mk H
 clear H
 go_enter Try.func13, Try.ntmps13
 go_wp2_with (first | ((with_reducible refine gate_dst (N := 5) rfl ?_); refine Kd.R_lit (Kd.int .u32) _ 23 ?hg (N := 5) ?hd (xs := ([0, 4294967295] : List Int)) (inner := [.int .u32 0, .int .u32 4294967295]) (ok := fun _ => True) (okp := fun _ => True) ?hr ?hp (fun _ hk => hk) trivial (Below.refl _ _) (Nat.le_refl _) (by simp) ?_; (case hd => rfl); (case hg => rfl); (case hr => first | (go_simp; done) | (go_simp; rfl)); (case hp => exact (Reps.one (show Kd.M (Kd.int .u32) _ _ _ 0 [.int .u32 0] from rfl) (Reps.one (show Kd.M (Kd.int .u32) _ _ _ 4294967295 [.int .u32 4294967295] from rfl) (Reps.none _ _)))); intro v195 w2 ho3 hb hg_ hnew_; clear hg_ hnew_; (first | rw [← Ny194.out] at ho3 | (simp only [Int.reduceToNat] at ho3; rw [← Ny194.out] at ho3)); have HO196 := Aside0.mk (Kd.R_lower ho3 (below_size (by repeat (first | (with_reducible first | exact HB.out | apply below_alloc | apply pw_below_drewN | apply below_drew1) | exact HB.out)))); replace HB := Aside0.mk (below_step (by repeat (first | (with_reducible first | exact HB.out | apply below_alloc | apply pw_below_drewN | apply below_drew1) | exact HB.out)) hb); clear hb ho3))
 go_loopg [3, 4] k (fun kq v3 v4 w' => ∃ (x3_1 : List Int) (x4_1 : Int), v4 = .int .i64 x4_1 ∧ Aside0 (whirligigref01_Edges.l0 kq l0 x3_1 x4_1 = some r) ∧ Aside0 (kq ≤ k) ∧ Aside0 (Kd.R (Kd.int .u32) 23 w' w.heap.size (fun _ => True) v3 x3_1) ∧ Aside0 (Below w.heap.size w w'))
 case atStart => exact ⟨(y194), (0), (by first | rfl | (simp; done) | (simp [*]; done)), H', ⟨Nat.le_refl _⟩, ⟨by (with_reducible repeat (first | apply Kd.R_alloc | apply Kd.R_drewN | apply Kd.R_drew)); exact HO196.out⟩, ⟨by repeat (first | (with_reducible first | exact HB.out | apply below_alloc | apply pw_below_drewN | apply below_drew1) | exact HB.out)⟩⟩
 case round =>
  clear H'
  try clear c1
  try clear p2
  obtain ⟨x3_1, x4_1, rfl, HA, HK1, HO_3, HB⟩ := hrel
  cases gk with
  | zero => exact absurd HA.out (by simp [whirligigref01_Edges.l0])
  | succ k1 =>
   have H := HA.out
   clear HA
   simp only [whirligigref01_Edges.l0] at H
   by_cases c4 : x4_1 < (l0.length : Int)
   ·rw [if_pos c4] at H
    have c4b0 : decide (x4_1 < (l0.length : Int)) = true := decide_eq_true c4
    clear c4
    by_cases c5 : 0 ≤ x4_1
    ·rw [if_pos c5] at H
     have c5b0 : decide (0 ≤ x4_1) = true := decide_eq_true c5
     clear c5
     replace H := Option.bind_eq_some_iff.mp H
     obtain ⟨t200, A60, H⟩ := H
     (try dsimp only at H)
     have A6 := Aside0.mk A60
     clear A60
     replace H := Option.bind_eq_some_iff.mp H
     obtain ⟨t202, A70, H⟩ := H
     (try dsimp only at H)
     have A7 := Aside0.mk A70
     clear A70
     obtain ⟨y203, hy203⟩ : ∃ y_ : List Int, y_ = (([(rd_T30 l0 x4_1).f0, (((rd_T30 l0 x4_1).f0) - 1) % 4294967296, t200, (t202 + 1) % 4294967296] : List Int)) := ⟨_, rfl⟩
     replace H : (if x3_1.length + y203.length < 35184372088832 then (whirligigref01_Edges.l0 k1 l0 (x3_1 ++ y203) (wrap64 (x4_1 + 1))) else (none)) = some r := by first | (rw [hy203]; with_reducible exact H) | (have H2_ := (Option.bind_some _ _).symm.trans H; rw [hy203]; with_reducible exact H2_) | (have H2_ := (Option.bind_some _ _).symm.trans H; with_reducible exact H2_) | with_reducible exact H | (rw [hy203]; exact H) | exact H
     have Ny203 := Aside0.mk hy203
     clear hy203
     by_cases c8 : x3_1.length + y203.length < 35184372088832
     ·rw [if_pos c8] at H
      have LMc8 := Aside0.mk c8
      clear c8
      obtain ⟨y206, hy206⟩ : ∃ y_ : List Int, y_ = (x3_1 ++ y203) := ⟨_, rfl⟩
      replace H : (whirligigref01_Edges.l0 k1 l0 y206 (wrap64 (x4_1 + 1))) = some r := by first | (rw [hy206]; with_reducible exact H) | (have H2_ := (Option.bind_some _ _).symm.trans H; rw [hy206]; with_reducible exact H2_) | (have H2_ := (Option.bind_some _ _).symm.trans H; with_reducible exact H2_) | with_reducible exact H | (rw [hy206]; exact H) | exact H
      have Ny206 := Aside0.mk hy206
      clear hy206
      have H' := Aside0.mk H
      clear H
      try go_wp2
      replace HO_3 := Aside0.mk (Kd.R_drew HO_3.out)
      replace HB := Aside0.mk (below_drew1 HB.out)
      have p197 : 0 ≤ (x4_1 : Int) := of_decide_eq_true (by first | (with_reducible assumption) | assumption)
      have q197 : x4_1 < (l0.length : Int) := of_decide_eq_true (by first | (with_reducible assumption) | assumption)
      obtain ⟨ad197, e197, hx197_0, hx197_1⟩ := at_T30 HR0.out x4_1 p197 q197
      have hw197_1 := hx197_1
      have hw197_0 := hx197_0
      cases e197
      replace hx197_0 := (HB.out.cell (World.block_lt_of_cell? w _ hx197_0)).trans hx197_0
      replace hx197_1 := (HB.out.cell (World.block_lt_of_cell? w _ hx197_1)).trans hx197_1
      replace p197 := eq_true p197
      replace q197 := eq_true q197
      have p198 : 0 ≤ (x4_1 : Int) := of_decide_eq_true (by first | (with_reducible assumption) | assumption)
      have q198 : x4_1 < (l0.length : Int) := of_decide_eq_true (by first | (with_reducible assumption) | assumption)
      obtain ⟨ad198, e198, hx198_0, hx198_1⟩ := at_T30 HR0.out x4_1 p198 q198
      have hw198_1 := hx198_1
      have hw198_0 := hx198_0
      obtain rfl : ad197 = ad198 := (by injection e198)
      replace hx198_0 := (HB.out.cell (World.block_lt_of_cell? w _ hx198_0)).trans hx198_0
      replace hx198_1 := (HB.out.cell (World.block_lt_of_cell? w _ hx198_1)).trans hx198_1
      replace p198 := eq_true p198
      replace q198 := eq_true q198
      have p199 : 0 ≤ (x4_1 : Int) := of_decide_eq_true (by first | (with_reducible assumption) | assumption)
      have q199 : x4_1 < (l0.length : Int) := of_decide_eq_true (by first | (with_reducible assumption) | assumption)
      obtain ⟨ad199, e199, hx199_0, hx199_1⟩ := at_T30 HR0.out x4_1 p199 q199
      have hw199_1 := hx199_1
      have hw199_0 := hx199_0
      obtain rfl : ad197 = ad199 := (by injection e199)
      replace hx199_0 := (HB.out.cell (World.block_lt_of_cell? w _ hx199_0)).trans hx199_0
      replace hx199_1 := (HB.out.cell (World.block_lt_of_cell? w _ hx199_1)).trans hx199_1
      replace p199 := eq_true p199
      replace q199 := eq_true q199
      have p201 : 0 ≤ (x4_1 : Int) := of_decide_eq_true (by first | (with_reducible assumption) | assumption)
      have q201 : x4_1 < (l0.length : Int) := of_decide_eq_true (by first | (with_reducible assumption) | assumption)
      obtain ⟨ad201, e201, hx201_0, hx201_1⟩ := at_T30 HR0.out x4_1 p201 q201
      have hw201_1 := hx201_1
      have hw201_0 := hx201_0
      obtain rfl : ad197 = ad201 := (by injection e201)
      replace hx201_0 := (HB.out.cell (World.block_lt_of_cell? w _ hx201_0)).trans hx201_0
      replace hx201_1 := (HB.out.cell (World.block_lt_of_cell? w _ hx201_1)).trans hx201_1
      replace p201 := eq_true p201
      replace q201 := eq_true q201
      refine start_ (n := 26) (S := fun w' => w'.cell? (ad197.add ((x4_1).toNat * 2)) = some (.int .u32 ((rd_T30 l0 x4_1).f0)) ∧ w'.cell? ⟨(ad197.add ((x4_1).toNat * 2)).block, (ad197.add ((x4_1).toNat * 2)).off + 1, none⟩ = some (.int .i64 ((rd_T30 l0 x4_1).f1)) ∧ w'.cell? (ad197.add ((x4_1).toNat * 2)) = some (.int .u32 ((rd_T30 l0 x4_1).f0)) ∧ w'.cell? ⟨(ad197.add ((x4_1).toNat * 2)).block, (ad197.add ((x4_1).toNat * 2)).off + 1, none⟩ = some (.int .i64 ((rd_T30 l0 x4_1).f1)) ∧ w'.cell? (ad197.add ((x4_1).toNat * 2)) = some (.int .u32 ((rd_T30 l0 x4_1).f0)) ∧ w'.cell? ⟨(ad197.add ((x4_1).toNat * 2)).block, (ad197.add ((x4_1).toNat * 2)).off + 1, none⟩ = some (.int .i64 ((rd_T30 l0 x4_1).f1)) ∧ w'.cell? (ad197.add ((x4_1).toNat * 2)) = some (.int .u32 ((rd_T30 l0 x4_1).f0)) ∧ w'.cell? ⟨(ad197.add ((x4_1).toNat * 2)).block, (ad197.add ((x4_1).toNat * 2)).off + 1, none⟩ = some (.int .i64 ((rd_T30 l0 x4_1).f1))) (ds := []) #[false, false, false, false, false, false, false, false, false, false, false, false, false, false, false, false, false, false, false, false, false, false, false, false, false, false] (by kernel_rfl) rfl rfl ⟨((HB.out.cell (World.block_lt_of_cell? w _ hw197_0)).trans hw197_0), ((HB.out.cell (World.block_lt_of_cell? w _ hw197_1)).trans hw197_1), ((HB.out.cell (World.block_lt_of_cell? w _ hw198_0)).trans hw198_0), ((HB.out.cell (World.block_lt_of_cell? w _ hw198_1)).trans hw198_1), ((HB.out.cell (World.block_lt_of_cell? w _ hw199_0)).trans hw199_0), ((HB.out.cell (World.block_lt_of_cell? w _ hw199_1)).trans hw199_1), ((HB.out.cell (World.block_lt_of_cell? w _ hw201_0)).trans hw201_0), ((HB.out.cell (World.block_lt_of_cell? w _ hw201_1)).trans hw201_1)⟩ (fun hHeld => ?_); refine with_tabW whirligigref01_Edges.tab5 whirligigref01_Edges.bits5 (fun HT_ HW_ => ?_)
      generalize wr.drew = w9 at HO_3 HB hx197_0 hx197_1 hx198_0 hx198_1 hx199_0 hx199_1 hx201_0 hx201_1 hHeld ⊢
      refine pure_ (i := 0) (N := some 12) (v := ?_) (a' := ?_) #[true, false, false, false, false, false, false, false, false, false, false, false, false, false, false, false, false, false, false, false, false, false, false, false, false, false] rfl rfl (any_of HT_.out (by kernel_rfl)) (fun _ _ _ h => h) (Or.inl ⟨by rfl, ?_⟩) ?_ ?_
      rotate_left
      ·intro w'
       go_simp
       with_reducible rfl
      rotate_left
      ·simp only [Act.put, List.setIfInBounds_toArray, List.set_cons_zero, List.set_cons_succ, i64_w]
       rfl
      refine pure_ (i := 1) (N := some 13) (v := ?_) (a' := ?_) #[true, true, false, false, false, false, false, false, false, false, false, false, false, false, false, false, false, false, false, false, false, false, false, false, false, false] rfl rfl (any_of HT_.out (by kernel_rfl)) (fun _ _ _ h => h) (Or.inl ⟨by rfl, ?_⟩) ?_ ?_
      rotate_left
      ·intro w'
       go_simp
       with_reducible rfl
      rotate_left
      ·simp only [Act.put, List.setIfInBounds_toArray, List.set_cons_zero, List.set_cons_succ, i64_w]
       rfl
      refine pure_ (i := 2) (N := some 14) (v := ?_) (a' := ?_) #[true, true, true, false, false, false, false, false, false, false, false, false, false, false, false, false, false, false, false, false, false, false, false, false, false, false] rfl rfl (any_of HT_.out (by kernel_rfl)) (fun _ _ _ h => h) (Or.inl ⟨by rfl, ?_⟩) ?_ ?_
      rotate_left
      ·intro w'
       go_simp
       with_reducible rfl
      rotate_left
      ·simp only [Act.put, List.setIfInBounds_toArray, List.set_cons_zero, List.set_cons_succ, i64_w]
       rfl
      refine pure_ (i := 3) (N := some 15) (v := ?_) (a' := ?_) #[true, true, true, true, false, false, false, false, false, false, false, false, false, false, false, false, false, false, false, false, false, false, false, false, false, false] rfl rfl (any_of HT_.out (by kernel_rfl)) (fun _ _ _ h => h) (Or.inl ⟨by rfl, ?_⟩) ?_ ?_
      rotate_left
      ·intro w'
       go_simp
       with_reducible rfl
      rotate_left
      ·simp only [Act.put, List.setIfInBounds_toArray, List.set_cons_zero, List.set_cons_succ, i64_w]
       rfl
      refine pure_ (i := 4) (N := some 16) (v := ?_) (a' := ?_) #[true, true, true, true, true, false, false, false, false, false, false, false, false, false, false, false, false, false, false, false, false, false, false, false, false, false] rfl rfl (any_of HT_.out (by kernel_rfl)) (fun _ _ _ h => h) (Or.inl ⟨by rfl, ?_⟩) ?_ ?_
      rotate_left
      ·intro w'
       go_simp
       with_reducible rfl
      rotate_left
      ·simp only [Act.put, List.setIfInBounds_toArray, List.set_cons_zero, List.set_cons_succ, i64_w]
       rfl
      refine pure_ (i := 6) (N := some 18) (v := ?_) (a' := ?_) #[true, true, true, true, true, false, true, false, false, false, false, false, false, false, false, false, false, false, false, false, false, false, false, false, false, false] rfl rfl (any_of HT_.out (by kernel_rfl)) (fun _ _ _ h => h) (Or.inl ⟨by rfl, ?_⟩) ?_ ?_
      rotate_left
      ·intro w'
       go_simp
       with_reducible rfl
      rotate_left
      ·simp only [Act.put, List.setIfInBounds_toArray, List.set_cons_zero, List.set_cons_succ, i64_w]
       rfl
      refine pure_ (i := 7) (N := some 19) (v := ?_) (a' := ?_) #[true, true, true, true, true, false, true, true, false, false, false, false, false, false, false, false, false, false, false, false, false, false, false, false, false, false] rfl rfl (any_of HT_.out (by kernel_rfl)) (fun _ _ _ h => h) (Or.inl ⟨by rfl, ?_⟩) ?_ ?_
      rotate_left
      ·intro w'
       go_simp
       with_reducible rfl
      rotate_left
      ·simp only [Act.put, List.setIfInBounds_toArray, List.set_cons_zero, List.set_cons_succ, i64_w]
       rfl
      refine pure_ (i := 8) (N := some 20) (v := ?_) (a' := ?_) #[true, true, true, true, true, false, true, true, true, false, false, false, false, false, false, false, false, false, false, false, false, false, false, false, false, false] rfl rfl (any_of HT_.out (by kernel_rfl)) (fun _ _ _ h => h) (Or.inl ⟨by rfl, ?_⟩) ?_ ?_
      rotate_left
      ·intro w'
       go_simp
       with_reducible rfl
      rotate_left
      ·simp only [Act.put, List.setIfInBounds_toArray, List.set_cons_zero, List.set_cons_succ, i64_w]
       rfl
      refine pure_ (i := 9) (N := some 21) (v := ?_) (a' := ?_) #[true, true, true, true, true, false, true, true, true, true, false, false, false, false, false, false, false, false, false, false, false, false, false, false, false, false] rfl rfl (any_of HT_.out (by kernel_rfl)) (fun _ _ _ h => h) (Or.inl ⟨by rfl, ?_⟩) ?_ ?_
      rotate_left
      ·intro w'
       go_simp
       with_reducible rfl
      rotate_left
      ·simp only [Act.put, List.setIfInBounds_toArray, List.set_cons_zero, List.set_cons_succ, i64_w]
       rfl
      refine pure_ (i := 12) (N := some 24) (v := ?_) (a' := ?_) #[true, true, true, true, true, false, true, true, true, true, false, false, true, false, false, false, false, false, false, false, false, false, false, false, false, false] rfl rfl (any_of HT_.out (by kernel_rfl)) (fun _ _ _ h => h) (Or.inl ⟨by rfl, ?_⟩) ?_ ?_
      rotate_left
      ·intro w'
       go_simp
       with_reducible rfl
      rotate_left
      ·simp only [Act.put, List.setIfInBounds_toArray, List.set_cons_zero, List.set_cons_succ, i64_w]
       rfl
      refine pure_ (i := 13) (N := some 25) (v := ?_) (a' := ?_) #[true, true, true, true, true, false, true, true, true, true, false, false, true, true, false, false, false, false, false, false, false, false, false, false, false, false] rfl rfl (any_of HT_.out (by kernel_rfl)) (fun _ _ _ h => h) (Or.inl ⟨by rfl, ?_⟩) ?_ ?_
      rotate_left
      ·intro w'
       go_simp
       with_reducible rfl
      rotate_left
      ·simp only [Act.put, List.setIfInBounds_toArray, List.set_cons_zero, List.set_cons_succ, i64_w]
       rfl
      refine pure_ (i := 14) (N := some 26) (v := ?_) (a' := ?_) #[true, true, true, true, true, false, true, true, true, true, false, false, true, true, true, false, false, false, false, false, false, false, false, false, false, false] rfl rfl (any_of HT_.out (by kernel_rfl)) (fun _ _ _ h => h) (Or.inl ⟨by rfl, ?_⟩) ?_ ?_
      rotate_left
      ·intro w'
       go_simp
       with_reducible rfl
      rotate_left
      ·simp only [Act.put, List.setIfInBounds_toArray, List.set_cons_zero, List.set_cons_succ, i64_w]
       rfl
      refine pure_ (i := 17) (N := some 29) (v := ?_) (a' := ?_) #[true, true, true, true, true, false, true, true, true, true, false, false, true, true, true, false, false, true, false, false, false, false, false, false, false, false] rfl rfl (any_of HT_.out (by kernel_rfl)) (fun _ _ _ h => h) (Or.inl ⟨by rfl, ?_⟩) ?_ ?_
      rotate_left
      ·intro w'
       go_simp
       with_reducible rfl
      rotate_left
      ·simp only [Act.put, List.setIfInBounds_toArray, List.set_cons_zero, List.set_cons_succ, i64_w]
       rfl
      refine pure_ (i := 18) (N := some 30) (v := ?_) (a' := ?_) #[true, true, true, true, true, false, true, true, true, true, false, false, true, true, true, false, false, true, true, false, false, false, false, false, false, false] rfl rfl (any_of HT_.out (by kernel_rfl)) (fun _ _ _ h => h) (Or.inl ⟨by rfl, ?_⟩) ?_ ?_
      rotate_left
      ·intro w'
       go_simp
       with_reducible rfl
      rotate_left
      ·simp only [Act.put, List.setIfInBounds_toArray, List.set_cons_zero, List.set_cons_succ, i64_w]
       rfl
      refine pure_ (i := 19) (N := some 31) (v := ?_) (a' := ?_) #[true, true, true, true, true, false, true, true, true, true, false, false, true, true, true, false, false, true, true, true, false, false, false, false, false, false] rfl rfl (any_of HT_.out (by kernel_rfl)) (fun _ _ _ h => h) (Or.inl ⟨by rfl, ?_⟩) ?_ ?_
      rotate_left
      ·intro w'
       go_simp
       with_reducible rfl
      rotate_left
      ·simp only [Act.put, List.setIfInBounds_toArray, List.set_cons_zero, List.set_cons_succ, i64_w]
       rfl
      refine take_ (i := 5) (N := some 17) (v := ?_) (a' := ?_) #[true, true, true, true, true, true, true, true, true, true, false, false, true, true, true, false, false, true, true, true, false, false, false, false, false, false] rfl rfl (take_ofW HT_.out HW_.out (by kernel_rfl)) (fun _ _ _ h => h) (Or.inl ⟨by rfl, ?_⟩) hHeld ?_ ?_
      rotate_left
      ·rintro w' ⟨s0, s1, s2, s3, s4, s5, s6, s7⟩
       go_simp
       with_reducible rfl
      rotate_left
      ·simp only [Act.put, List.setIfInBounds_toArray, List.set_cons_zero, List.set_cons_succ, i64_w]
       rfl
      refine take_ (i := 10) (N := some 22) (v := ?_) (a' := ?_) #[true, true, true, true, true, true, true, true, true, true, true, false, true, true, true, false, false, true, true, true, false, false, false, false, false, false] rfl rfl (take_ofW HT_.out HW_.out (by kernel_rfl)) (fun _ _ _ h => h) (Or.inl ⟨by rfl, ?_⟩) hHeld ?_ ?_
      rotate_left
      ·rintro w' ⟨s0, s1, s2, s3, s4, s5, s6, s7⟩
       go_simp
       with_reducible rfl
      rotate_left
      ·simp only [Act.put, List.setIfInBounds_toArray, List.set_cons_zero, List.set_cons_succ, i64_w]
       rfl
      refine pure_ (i := 11) (N := some 23) (v := ?_) (a' := ?_) #[true, true, true, true, true, true, true, true, true, true, true, true, true, true, true, false, false, true, true, true, false, false, false, false, false, false] rfl rfl (any_of HT_.out (by kernel_rfl)) (fun _ _ _ h => h) (Or.inl ⟨by rfl, ?_⟩) ?_ ?_
      rotate_left
      ·intro w'
       go_simp
       with_reducible rfl
      rotate_left
      ·simp only [Act.put, List.setIfInBounds_toArray, List.set_cons_zero, List.set_cons_succ, i64_w]
       rfl
      refine take_ (i := 15) (N := some 27) (v := ?_) (a' := ?_) #[true, true, true, true, true, true, true, true, true, true, true, true, true, true, true, true, false, true, true, true, false, false, false, false, false, false] rfl rfl (take_ofW HT_.out HW_.out (by kernel_rfl)) (fun _ _ _ h => h) (Or.inl ⟨by rfl, ?_⟩) hHeld ?_ ?_
      rotate_left
      ·rintro w' ⟨s0, s1, s2, s3, s4, s5, s6, s7⟩
       go_simp
       with_reducible rfl
      rotate_left
      ·simp only [Act.put, List.setIfInBounds_toArray, List.set_cons_zero, List.set_cons_succ, i64_w]
       rfl
      refine take_ (i := 20) (N := some 32) (v := ?_) (a' := ?_) #[true, true, true, true, true, true, true, true, true, true, true, true, true, true, true, true, false, true, true, true, true, false, false, false, false, false] rfl rfl (take_ofW HT_.out HW_.out (by kernel_rfl)) (fun _ _ _ h => h) (Or.inl ⟨by rfl, ?_⟩) hHeld ?_ ?_
      rotate_left
      ·rintro w' ⟨s0, s1, s2, s3, s4, s5, s6, s7⟩
       go_simp
       with_reducible rfl
      rotate_left
      ·simp only [Act.put, List.setIfInBounds_toArray, List.set_cons_zero, List.set_cons_succ, i64_w]
       rfl
      refine one_ (i := 16) (N := some 28) #[true, true, true, true, true, true, true, true, true, true, true, true, true, true, true, true, true, true, true, true, true, false, false, false, false, false] rfl rfl (one_of HT_.out (by kernel_rfl)) (by decide) (fun K hK => ?_)
      refine goes_ Try.func33 (by kernel_rfl) rfl #[.agg #[.int .u32 ((rd_T30 l0 x4_1).f0), .int .i64 ((rd_T30 l0 x4_1).f1)]] (by rfl) rfl rfl (by (try simp only [List.map_toArray, List.map_cons, List.map_nil]); first | done | rfl) ?_
      with_reducible refine (whirligigref01_last.calls k1 ((rd_T30 l0 x4_1).f0) ((rd_T30 l0 x4_1).f1) t200 _ A6.out).mono ?_
      rintro e w10 ⟨rfl, hb⟩
      refine ⟨_, rfl, ?_⟩
      replace HO_3 := Aside0.mk (Kd.R_below (by (with_reducible repeat (first | apply Kd.R_alloc | apply Kd.R_drewN | apply Kd.R_drew)); exact HO_3.out) hb)
      replace HB := Aside0.mk (below_step (by repeat (first | (with_reducible first | exact HB.out | apply below_alloc | apply pw_below_drewN | apply below_drew1) | exact HB.out)) hb)
      (try clear hb)
      (try clear hb2)
      (try clear hk)
      (try clear hi)
      refine hK.out _ _ ⟨((HB.out.cell (World.block_lt_of_cell? w _ hw197_0)).trans hw197_0), ((HB.out.cell (World.block_lt_of_cell? w _ hw197_1)).trans hw197_1), ((HB.out.cell (World.block_lt_of_cell? w _ hw198_0)).trans hw198_0), ((HB.out.cell (World.block_lt_of_cell? w _ hw198_1)).trans hw198_1), ((HB.out.cell (World.block_lt_of_cell? w _ hw199_0)).trans hw199_0), ((HB.out.cell (World.block_lt_of_cell? w _ hw199_1)).trans hw199_1), ((HB.out.cell (World.block_lt_of_cell? w _ hw201_0)).trans hw201_0), ((HB.out.cell (World.block_lt_of_cell? w _ hw201_1)).trans hw201_1)⟩ (fun hHeld => ?_)
      clear hK K
      refine norm_ (a' := ?_) ?_ ?_
      rotate_left
      ·show Act.put _ (some 28) _ = _
       simp only [Act.put, List.setIfInBounds_toArray, List.set_cons_zero, List.set_cons_succ, i64_w]
       rfl
      refine one_ (i := 21) (N := some 33) #[true, true, true, true, true, true, true, true, true, true, true, true, true, true, true, true, true, true, true, true, true, true, false, false, false, false] rfl rfl (one_of HT_.out (by kernel_rfl)) (by decide) (fun K hK => ?_)
      refine goes_ Try.func33 (by kernel_rfl) rfl #[.agg #[.int .u32 ((rd_T30 l0 x4_1).f0), .int .i64 ((rd_T30 l0 x4_1).f1)]] (by rfl) rfl rfl (by (try simp only [List.map_toArray, List.map_cons, List.map_nil]); first | done | rfl) ?_
      with_reducible refine (whirligigref01_last.calls k1 ((rd_T30 l0 x4_1).f0) ((rd_T30 l0 x4_1).f1) t202 _ A7.out).mono ?_
      rintro e w11 ⟨rfl, hb⟩
      refine ⟨_, rfl, ?_⟩
      replace HO_3 := Aside0.mk (Kd.R_below (by (with_reducible repeat (first | apply Kd.R_alloc | apply Kd.R_drewN | apply Kd.R_drew)); exact HO_3.out) hb)
      replace HB := Aside0.mk (below_step (by repeat (first | (with_reducible first | exact HB.out | apply below_alloc | apply pw_below_drewN | apply below_drew1) | exact HB.out)) hb)
      (try clear hb)
      (try clear hb2)
      (try clear hk)
      (try clear hi)
      refine hK.out _ _ ⟨((HB.out.cell (World.block_lt_of_cell? w _ hw197_0)).trans hw197_0), ((HB.out.cell (World.block_lt_of_cell? w _ hw197_1)).trans hw197_1), ((HB.out.cell (World.block_lt_of_cell? w _ hw198_0)).trans hw198_0), ((HB.out.cell (World.block_lt_of_cell? w _ hw198_1)).trans hw198_1), ((HB.out.cell (World.block_lt_of_cell? w _ hw199_0)).trans hw199_0), ((HB.out.cell (World.block_lt_of_cell? w _ hw199_1)).trans hw199_1), ((HB.out.cell (World.block_lt_of_cell? w _ hw201_0)).trans hw201_0), ((HB.out.cell (World.block_lt_of_cell? w _ hw201_1)).trans hw201_1)⟩ (fun hHeld => ?_)
      clear hK K
      refine norm_ (a' := ?_) ?_ ?_
      rotate_left
      ·show Act.put _ (some 33) _ = _
       simp only [Act.put, List.setIfInBounds_toArray, List.set_cons_zero, List.set_cons_succ, i64_w]
       rfl
      refine pure_ (i := 22) (N := some 34) (v := ?_) (a' := ?_) #[true, true, true, true, true, true, true, true, true, true, true, true, true, true, true, true, true, true, true, true, true, true, true, false, false, false] rfl rfl (any_of HT_.out (by kernel_rfl)) (fun _ _ _ h => h) (Or.inl ⟨by rfl, ?_⟩) ?_ ?_
      rotate_left
      ·intro w'
       go_simp
       with_reducible rfl
      rotate_left
      ·simp only [Act.put, List.setIfInBounds_toArray, List.set_cons_zero, List.set_cons_succ, i64_w]
       rfl
      refine one_ (i := 23) (N := some 35) #[true, true, true, true, true, true, true, true, true, true, true, true, true, true, true, true, true, true, true, true, true, true, true, true, false, false] rfl rfl (one_of HT_.out (by kernel_rfl)) (by decide) (fun K hK => ?_)
      refine Kd.R_lit_step (Kd.int .u32) _ 23 ?hg (N := 35) ?hd (xs := ([(rd_T30 l0 x4_1).f0, (((rd_T30 l0 x4_1).f0) - 1) % 4294967296, t200, (t202 + 1) % 4294967296] : List Int)) (inner := [.int .u32 ((rd_T30 l0 x4_1).f0), .int .u32 ((((rd_T30 l0 x4_1).f0) - 1) % 4294967296), .int .u32 t200, .int .u32 ((t202 + 1) % 4294967296)]) (ok := fun _ => True) (okp := fun _ => True) ?hr ?hp (fun _ hk => hk) trivial (Below.refl _ _) (Nat.le_refl _) (by simp) ?_; (case hd => rfl); (case hg => rfl); (case hr => first | (go_simp; done) | (go_simp; rfl)); (case hp => exact (Reps.one (show Kd.M (Kd.int .u32) _ _ _ ((rd_T30 l0 x4_1).f0) [.int .u32 ((rd_T30 l0 x4_1).f0)] from rfl) (Reps.one (show Kd.M (Kd.int .u32) _ _ _ ((((rd_T30 l0 x4_1).f0) - 1) % 4294967296) [.int .u32 ((((rd_T30 l0 x4_1).f0) - 1) % 4294967296)] from rfl) (Reps.one (show Kd.M (Kd.int .u32) _ _ _ t200 [.int .u32 t200] from rfl) (Reps.one (show Kd.M (Kd.int .u32) _ _ _ ((t202 + 1) % 4294967296) [.int .u32 ((t202 + 1) % 4294967296)] from rfl) (Reps.none _ _))))))
      intro v204 w12 ho13 hb hg_ hnew_
      clear hg_ hnew_
      (first | rw [← Ny203.out] at ho13 | (simp only [Int.reduceToNat] at ho13; rw [← Ny203.out] at ho13))
      have n0_ := Aside0.mk (Kd.R_elder' (by (with_reducible repeat (first | apply Kd.R_alloc | apply Kd.R_drewN | apply Kd.R_drew)); exact HO_3.out) (Kd.R_base ho13) hb)
      have n1_ := Aside0.mk (Kd.R_lower (Kd.R_new' ho13 (Kd.R_lt (by (with_reducible repeat (first | apply Kd.R_alloc | apply Kd.R_drewN | apply Kd.R_drew)); exact HO_3.out))) (below_size (by repeat (first | (with_reducible first | exact HB.out | apply below_alloc | apply pw_below_drewN | apply below_drew1) | exact HB.out))))
      have n2_ := Aside0.mk (below_step (by repeat (first | (with_reducible first | exact HB.out | apply below_alloc | apply pw_below_drewN | apply below_drew1) | exact HB.out)) hb)
      clear HO_3
      clear HB
      have HO_3 := n0_
      have HO205 := n1_
      have HB := n2_
      clear n0_ n1_ n2_
      clear hb ho13
      obtain ⟨Ao15, co15, eo15⟩ := Kd.R_slice HO205.out
      (first | subst eo15 | (injection eo15 with f1_ f2_ f3_; have f4_ := f1_.symm; have f5_ := f3_.symm; clear f1_ f2_ f3_; subst f4_; subst f5_))
      refine hK.out _ _ ⟨((HB.out.cell (World.block_lt_of_cell? w _ hw197_0)).trans hw197_0), ((HB.out.cell (World.block_lt_of_cell? w _ hw197_1)).trans hw197_1), ((HB.out.cell (World.block_lt_of_cell? w _ hw198_0)).trans hw198_0), ((HB.out.cell (World.block_lt_of_cell? w _ hw198_1)).trans hw198_1), ((HB.out.cell (World.block_lt_of_cell? w _ hw199_0)).trans hw199_0), ((HB.out.cell (World.block_lt_of_cell? w _ hw199_1)).trans hw199_1), ((HB.out.cell (World.block_lt_of_cell? w _ hw201_0)).trans hw201_0), ((HB.out.cell (World.block_lt_of_cell? w _ hw201_1)).trans hw201_1)⟩ (fun hHeld => ?_)
      clear hK K
      refine norm_ (a' := ?_) ?_ ?_
      rotate_left
      ·show Act.put _ (some 35) _ = _
       simp only [Act.put, List.setIfInBounds_toArray, List.set_cons_zero, List.set_cons_succ, i64_w]
       rfl
      refine one_ (i := 24) (N := some 36) #[true, true, true, true, true, true, true, true, true, true, true, true, true, true, true, true, true, true, true, true, true, true, true, true, true, false] rfl rfl (one_of HT_.out (by kernel_rfl)) (by decide) (fun K hK => ?_)
      refine Kd.R_append_rows_step (Kd.int .u32) (w0 := w) w.heap.size (by rfl) (.tmp 12) (.tmp 35) 33 23 (.int .u32 0) 4 rfl Try.underlying33 info23 rfl (by decide) (by omega) u3 x3_1 y203 _ _ _ (fun k_ => some k_ ≠ (.slice Ao15 y203.length co15 : Value).ownBlock) (fun _ => False) rfl rfl ?aO ?aR (fun _ _ h => h) (fun _ h => h.elim) ?aF ?aB ?aS ?aL ?_
      (case aR => repeat (first | exact (Kd.R_reads' HO205.out).2.2 | (with_reducible refine Kd.C_alloc ?_ _) | (with_reducible refine Kd.C_drewN ?_ _) | (with_reducible refine Kd.C_drew ?_)))
      (case aB => exact (by repeat (first | (with_reducible first | exact HB.out | apply below_alloc | apply pw_below_drewN | apply below_drew1) | exact HB.out)))
      (case aF => exact (fun k_ hk => Kd.fresh' (Kd.R_lt (by (with_reducible repeat (first | apply Kd.R_alloc | apply Kd.R_drewN | apply Kd.R_drew)); exact HO205.out)) k_ hk))
      (case aO => exact (by (with_reducible repeat (first | apply Kd.R_alloc | apply Kd.R_drewN | apply Kd.R_drew)); exact Kd.R_mono HO_3.out (fun _ hk => hk.2)))
      (case aS => exact (below_size (by repeat (first | (with_reducible first | exact HB.out | apply below_alloc | apply pw_below_drewN | apply below_drew1) | exact HB.out))))
      (case aL => have := LMc8.out; omega)
      intro v207 w14 ho hb hg hat
      rw [← Ny206.out] at ho
      replace HO205 := Aside0.mk (Kd.R_after (ok := (fun _ => True)) (by (with_reducible repeat (first | apply Kd.R_alloc | apply Kd.R_drewN | apply Kd.R_drew)); exact HO205.out) hg hat)
      replace HB := Aside0.mk (hb)
      have HO208 := Aside0.mk (ho)
      clear HO_3
      clear ho hb hg hat
      refine hK.out _ _ ⟨((HB.out.cell (World.block_lt_of_cell? w _ hw197_0)).trans hw197_0), ((HB.out.cell (World.block_lt_of_cell? w _ hw197_1)).trans hw197_1), ((HB.out.cell (World.block_lt_of_cell? w _ hw198_0)).trans hw198_0), ((HB.out.cell (World.block_lt_of_cell? w _ hw198_1)).trans hw198_1), ((HB.out.cell (World.block_lt_of_cell? w _ hw199_0)).trans hw199_0), ((HB.out.cell (World.block_lt_of_cell? w _ hw199_1)).trans hw199_1), ((HB.out.cell (World.block_lt_of_cell? w _ hw201_0)).trans hw201_0), ((HB.out.cell (World.block_lt_of_cell? w _ hw201_1)).trans hw201_1)⟩ (fun hHeld => ?_)
      clear hK K
      refine norm_ (a' := ?_) ?_ ?_
      rotate_left
      ·show Act.put _ (some 36) _ = _
       simp only [Act.put, List.setIfInBounds_toArray, List.set_cons_zero, List.set_cons_succ, i64_w]
       rfl
      refine pure_ (i := 25) (N := some 3) (v := ?_) (a' := ?_) #[true, true, true, true, true, true, true, true, true, true, true, true, true, true, true, true, true, true, true, true, true, true, true, true, true, true] rfl rfl (any_of HT_.out (by kernel_rfl)) (fun _ _ _ h => h) (Or.inl ⟨by rfl, ?_⟩) ?_ ?_
      rotate_left
      ·intro w'
       go_simp
       with_reducible rfl
      rotate_left
      ·simp only [Act.put, List.setIfInBounds_toArray, List.set_cons_zero, List.set_cons_succ, i64_w]
       rfl
      refine done_ (done_of HT_.out (by kernel_rfl)) ?_
      try go_wp2
      go_roundg k1
      case measure => have := HK1.out; omega
      case rel => exact ⟨(y206), (wrap64 (x4_1 + 1)), (by first | rfl | (simp; done) | (simp [*]; done)), H', ⟨by have := HK1.out; omega⟩, ⟨by (with_reducible repeat (first | apply Kd.R_alloc | apply Kd.R_drewN | apply Kd.R_drew)); exact Kd.R_mono HO208.out (fun _ hk => trivial)⟩, ⟨by repeat (first | (with_reducible first | exact HB.out | apply below_alloc | apply pw_below_drewN | apply below_drew1) | exact HB.out)⟩⟩
     ·rw [if_neg c8] at H
      exact absurd H (by simp)
    ·rw [if_neg c5] at H
     exact absurd H (by simp)
   ·rw [if_neg c4] at H
    have c4b0 : decide (x4_1 < (l0.length : Int)) = false := decide_eq_false c4
    clear c4
    obtain rfl := Option.some.inj H
    go_wp2
    go_ret
    exact ⟨_, by first | rfl | (simp [errW_none, errW_some] <;> rfl) | (simp [*, errW_none, errW_some] <;> rfl), by (with_reducible repeat (first | apply Kd.R_alloc | apply Kd.R_drewN | apply Kd.R_drew)); exact HO_3.out, by repeat (first | (with_reducible first | exact HB.out | apply below_alloc | apply pw_below_drewN | apply below_drew1) | exact HB.out)⟩

def whirligigref01_In.l0 : Nat → List (S30) → Int → Int → Option (Bool)
  | 0, _, _, _ => none
  | k + 1, x0, x1, x5 => if x5 < (x0.length : Int) then (if 0 ≤ x5 then ((whirligigref01_Has.f k ((rd_T30 x0 x5).f0) ((rd_T30 x0 x5).f1) x1).bind fun t210 => (if t210 = true then (some true) else (whirligigref01_In.l0 k x0 x1 (wrap64 (x5 + 1))))) else (none)) else (some false)
def whirligigref01_In.f (k : Nat) (l0 : List (S30)) (a1 : Int) : Option (Bool) := whirligigref01_In.l0 k l0 a1 0
set_option maxHeartbeats 8000000 in
set_option maxRecDepth 100000 in
theorem whirligigref01_In.calls (k : Nat) (A0 : Option Addr) (c0 : Nat) (l0 : List (S30)) (a1 : Int) (r : Bool) (w : World) (hr0 : Kd.C k30 w A0 l0.length l0) (hc0 : l0.length ≤ c0) (h : whirligigref01_In.f k l0 a1 = some r) :
    Calls Try.prog 14 #[.slice A0 l0.length c0, .int .u32 a1] w fun e w' => e = .returned (.bool r) ∧ Below w.heap.size w w' := by
  have hu30 := Try.underlying30
  have HR0 := Aside0.mk hr0
  have HC0 := Aside0.mk hc0
  clear hr0 hc0
  have HB := Aside0.mk (Below.refl w.heap.size w)
  have H : (whirligigref01_In.l0 k l0 a1 0) = some r := h
  clear h
  have H' := Aside0.mk H
  clear H
  go_enter Try.func14, Try.ntmps14
  go_wp2
  go_loopg [5] k (fun kq v5 w' => ∃ (x5_1 : Int), v5 = .int .i64 x5_1 ∧ Aside0 (whirligigref01_In.l0 kq l0 a1 x5_1 = some r) ∧ Aside0 (kq ≤ k) ∧ Aside0 (Below w.heap.size w w'))
  case atStart => exact ⟨(0), (by first | rfl | (simp; done) | (simp [*]; done)), H', ⟨Nat.le_refl _⟩, ⟨by repeat (first | (with_reducible first | exact HB.out | apply below_alloc | apply pw_below_drewN | apply below_drew1) | exact HB.out)⟩⟩
  case round =>
    clear H'
    try clear c1
    try clear p2
    obtain ⟨x5_1, rfl, HA, HK1, HB⟩ := hrel
    cases gk with
    | zero => exact absurd HA.out (by simp [whirligigref01_In.l0])
    | succ k1 =>
      have H := HA.out
      clear HA
      simp only [whirligigref01_In.l0] at H
      by_cases c3 : x5_1 < (l0.length : Int)
      · rw [if_pos c3] at H
        have c3b0 : decide (x5_1 < (l0.length : Int)) = true := decide_eq_true c3
        clear c3
        by_cases c4 : 0 ≤ x5_1
        · rw [if_pos c4] at H
          have c4b0 : decide (0 ≤ x5_1) = true := decide_eq_true c4
          clear c4
          replace H := Option.bind_eq_some_iff.mp H
          obtain ⟨t210, A50, H⟩ := H
          replace H : (if t210 = true then (some true) else (whirligigref01_In.l0 k1 l0 a1 (wrap64 (x5_1 + 1)))) = some r := H
          have A5 := Aside0.mk A50
          clear A50
          by_cases c6 : t210 = true
          · subst c6
            have H1 : (some true) = some r := by rw [if_pos rfl] at H; exact H
            clear H
            have H := H1
            clear H1
            obtain rfl := Option.some.inj H
            have p209 : 0 ≤ (x5_1 : Int) := of_decide_eq_true (by first | (with_reducible assumption) | assumption)
            have q209 : x5_1 < (l0.length : Int) := of_decide_eq_true (by first | (with_reducible assumption) | assumption)
            obtain ⟨ad209, e209, hx209_0, hx209_1⟩ := at_T30 HR0.out x5_1 p209 q209
            cases e209
            replace hx209_0 := (HB.out.cell (World.block_lt_of_cell? w _ hx209_0)).trans hx209_0
            replace hx209_1 := (HB.out.cell (World.block_lt_of_cell? w _ hx209_1)).trans hx209_1
            replace p209 := eq_true p209
            replace q209 := eq_true q209
            go_wp2_with (first | ((with_reducible refine gate_callee (f := 18) rfl ?_); refine goesL_ (some 17) rfl rfl Try.func18 (by kernel_rfl) rfl #[.agg #[.int .u32 ((rd_T30 l0 x5_1).f0), .int .i64 ((rd_T30 l0 x5_1).f1)], .int .u32 a1] rfl (by (try simp only [List.map_toArray, List.map_cons, List.map_nil]); first | done | rfl | (simp only [List.length_drop, List.length_take]; rfl)) ?_; (with_reducible refine (whirligigref01_Has.calls k1 ((rd_T30 l0 x5_1).f0) ((rd_T30 l0 x5_1).f1) a1 true _ A5.out).mono ?_); rintro e w7 ⟨rfl, hb⟩; refine ⟨_, rfl, ?_⟩; have n0_ := Aside0.mk (below_step (by repeat (first | (with_reducible first | exact HB.out | apply below_alloc | apply pw_below_drewN | apply below_drew1) | exact HB.out)) hb); clear HB; have HB := n0_; clear n0_; (try clear hb); (try clear hb2); (try clear hk); (try clear hi)))
            go_ret
            exact ⟨by first | rfl | (simp [errW_none, errW_some] <;> rfl) | (simp [*, errW_none, errW_some] <;> rfl), by repeat (first | (with_reducible first | exact HB.out | apply below_alloc | apply pw_below_drewN | apply below_drew1) | exact HB.out)⟩
          · replace c6 := Bool.eq_false_iff.mpr c6
            subst c6
            have H1 : (whirligigref01_In.l0 k1 l0 a1 (wrap64 (x5_1 + 1))) = some r := by rw [if_neg (show ¬ (false = true) by decide)] at H; exact H
            clear H
            have H := H1
            clear H1
            have H' := Aside0.mk H
            clear H
            have p209 : 0 ≤ (x5_1 : Int) := of_decide_eq_true (by first | (with_reducible assumption) | assumption)
            have q209 : x5_1 < (l0.length : Int) := of_decide_eq_true (by first | (with_reducible assumption) | assumption)
            obtain ⟨ad209, e209, hx209_0, hx209_1⟩ := at_T30 HR0.out x5_1 p209 q209
            cases e209
            replace hx209_0 := (HB.out.cell (World.block_lt_of_cell? w _ hx209_0)).trans hx209_0
            replace hx209_1 := (HB.out.cell (World.block_lt_of_cell? w _ hx209_1)).trans hx209_1
            replace p209 := eq_true p209
            replace q209 := eq_true q209
            go_wp2_with (first | ((with_reducible refine gate_callee (f := 18) rfl ?_); refine goesL_ (some 17) rfl rfl Try.func18 (by kernel_rfl) rfl #[.agg #[.int .u32 ((rd_T30 l0 x5_1).f0), .int .i64 ((rd_T30 l0 x5_1).f1)], .int .u32 a1] rfl (by (try simp only [List.map_toArray, List.map_cons, List.map_nil]); first | done | rfl | (simp only [List.length_drop, List.length_take]; rfl)) ?_; (with_reducible refine (whirligigref01_Has.calls k1 ((rd_T30 l0 x5_1).f0) ((rd_T30 l0 x5_1).f1) a1 false _ A5.out).mono ?_); rintro e w8 ⟨rfl, hb⟩; refine ⟨_, rfl, ?_⟩; have n0_ := Aside0.mk (below_step (by repeat (first | (with_reducible first | exact HB.out | apply below_alloc | apply pw_below_drewN | apply below_drew1) | exact HB.out)) hb); clear HB; have HB := n0_; clear n0_; (try clear hb); (try clear hb2); (try clear hk); (try clear hi)))
            go_roundg k1
            case measure => have := HK1.out; omega
            case rel => exact ⟨(wrap64 (x5_1 + 1)), (by first | rfl | (simp; done) | (simp [*]; done)), H', ⟨by have := HK1.out; omega⟩, ⟨by repeat (first | (with_reducible first | exact HB.out | apply below_alloc | apply pw_below_drewN | apply below_drew1) | exact HB.out)⟩⟩
        · rw [if_neg c4] at H
          exact absurd H (by simp)
      · rw [if_neg c3] at H
        have c3b0 : decide (x5_1 < (l0.length : Int)) = false := decide_eq_false c3
        clear c3
        obtain rfl := Option.some.inj H
        go_wp2
        go_ret
        exact ⟨by first | rfl | (simp [errW_none, errW_some] <;> rfl) | (simp [*, errW_none, errW_some] <;> rfl), by repeat (first | (with_reducible first | exact HB.out | apply below_alloc | apply pw_below_drewN | apply below_drew1) | exact HB.out)⟩

end Go.Proofs.Ytckffheolnmcnaa.P

end
section
namespace Go.Proofs.Ytckffheolnmcnaa.P
open Go.RowKit Go.Proofs.YtckffheolnmcnaaW.PrintWords Go.Proofs.YtckffheolnmcnaaW.PrintLast Go.Proofs.YtckffheolnmcnaaW.PrintMore
attribute [local go_sem] max2_int min2_int max_two min_two max_three min_three max_four min_four   -- for this text's walks alone
set_option linter.unusedVariables false
set_option linter.unusedSimpArgs false

mutual
def whirligiglaw01_AddrPlain.j0 : Nat → List (S30) → Int → Bool → Option (Bool)
  | 0, _, _, _ => none
  | k + 1, x0, x1, x22 => if x22 = true then ((whirligiglaw01_lives.f k).bind fun t211 => (some t211)) else ((addr_Plain.f k x0).bind fun bt212 => ((whirligigref01_Why.f k x0).bind fun t216 => (if t216 = 0 then (whirligiglaw01_AddrPlain.l0 k x0 x1 bt212.1 bt212.2 ([] : List (S30)) (wrap64 ((x0.length : Int) - 1))) else (if (bt212.1.length : Int) = 0 then ((whirligigref01_Why.f k x0).bind fun t217 => (if bt212.2 = t217 then ((whirligiglaw01_lives.f k).bind fun t218 => (some t218)) else (some false))) else (some false)))))
def whirligiglaw01_AddrPlain.l0 : Nat → List (S30) → Int → List (S30) → Int → List (S30) → Int → Option (Bool)
  | 0, _, _, _, _, _, _ => none
  | k + 1, x0, x1, x5, x6, x7, x8 => if x8 ≥ 0 then (if 0 ≤ x8 then (if x8 < (x0.length : Int) then (if x7.length < 8796093022208 then (whirligiglaw01_AddrPlain.l0 k x0 x1 x5 x6 (x7 ++ [(⟨(rd_T30 x0 x8).f0, (rd_T30 x0 x8).f1⟩ : S30)]) (wrap64 (x8 - 1))) else (none)) else (none)) else (none)) else ((addr_Plain.f k x7).bind fun bt223 => ((addr_Plain.f k x5).bind fun bt227 => (if x6 = 0 then (if bt223.2 = 0 then (if bt227.2 = 0 then ((whirligigref01_IsPlain.f k x5).bind fun t231 => (if t231 = true then ((whirligigref01_Same.f k x5 bt223.1).bind fun t232 => (if t232 = true then ((whirligigref01_Same.f k x5 bt227.1).bind fun t233 => (whirligiglaw01_AddrPlain.j2 k x0 x1 x5 (!t233))) else (whirligiglaw01_AddrPlain.j2 k x0 x1 x5 true))) else (whirligiglaw01_AddrPlain.j2 k x0 x1 x5 true))) else (whirligiglaw01_AddrPlain.j2 k x0 x1 x5 true)) else (whirligiglaw01_AddrPlain.j2 k x0 x1 x5 true)) else (whirligiglaw01_AddrPlain.j2 k x0 x1 x5 true))))
def whirligiglaw01_AddrPlain.j2 : Nat → List (S30) → Int → List (S30) → Bool → Option (Bool)
  | 0, _, _, _, _ => none
  | k + 1, x0, x1, x5, x94 => if x94 = true then (some false) else ((whirligigref01_Edges.f k x0).bind fun t234 => ((whirligigref01_Edges.f k x5).bind fun t237 => (if t234.length + t237.length < 35184372088832 then ((some (t234 ++ t237 : List Int)).bind fun y240 => (if y240.length < 35184372088832 then (whirligiglaw01_AddrPlain.l1 k x0 x5 (y240 ++ [x1]) 0) else (none))) else (none))))
def whirligiglaw01_AddrPlain.l1 : Nat → List (S30) → List (S30) → List Int → Int → Option (Bool)
  | 0, _, _, _, _ => none
  | k + 1, x0, x5, x13, x14 => if x14 < (x13.length : Int) then (if 0 ≤ x14 then ((whirligigref01_In.f k x0 (rd x13 x14)).bind fun t248 => ((whirligigref01_In.f k x5 (rd x13 x14)).bind fun t250 => (if (t248 != t250) = true then (some false) else (whirligiglaw01_AddrPlain.l1 k x0 x5 x13 (wrap64 (x14 + 1)))))) else (none)) else ((whirligiglaw01_lives.f k).bind fun t246 => (some t246))
end
def whirligiglaw01_AddrPlain.f (k : Nat) (l0 : List (S30)) (a1 : Int) : Option (Bool) := if (l0.length : Int) > 40 then (whirligiglaw01_AddrPlain.j0 k l0 a1 (decide ((l0.length : Int) ≤ 1024))) else (whirligiglaw01_AddrPlain.j0 k l0 a1 false)
def whirligiglaw01_AddrPlain.T21 : Bool × List (List Nat × List Nat) := (true, [([], []), ([], []), ([], []), ([1, 2], [1, 2]), ([3], [3]), ([0, 4], [0, 4]), ([], []), ([], []), ([], []), ([7, 8], [7, 8]), ([9], [9]), ([6, 10, 5], [6, 10]), ([5, 11], [5, 11])])
def whirligiglaw01_AddrPlain.B21 : List Nat := [0, 0, 0, 6, 14, 31, 0, 0, 0, 384, 896, 2047, 4095]
theorem whirligiglaw01_AddrPlain.tab21 : rtab .any (opsOf Try.f3 21) = whirligiglaw01_AddrPlain.T21 := by kernel_rfl
theorem whirligiglaw01_AddrPlain.bits21 : waitsOk whirligiglaw01_AddrPlain.T21.2 whirligiglaw01_AddrPlain.B21 = true := by kernel_rfl
theorem k01c6.z {w0 w W W' : World} (h : Below w0.heap.size w0 w) (hb : Below W.heap.size W W') (e : W.heap = w.heap) (e1 : W.os = w.os) (e2 : W.tape = w.tape) (e3 : W.output = w.output) : Below w0.heap.size w0 W' := below_step ⟨e1.trans h.os, e2.trans h.tape, e3.trans h.output, e ▸ h.size, fun k hk => by rw [e]; exact h.block k hk⟩ hb
set_option maxHeartbeats 8000000 in
set_option maxRecDepth 100000 in
theorem whirligiglaw01_AddrPlain.calls (k : Nat) (A0 : Option Addr) (c0 : Nat) (l0 : List (S30)) (a1 : Int) (r : Bool) (w : World) (hr0 : Kd.C k30 w A0 l0.length l0) (hc0 : l0.length ≤ c0) (h : whirligiglaw01_AddrPlain.f k l0 a1 = some r) :
  Calls Try.prog 3 #[.slice A0 l0.length c0, .int .u32 a1] w fun e w' => e = .returned (.bool r) ∧ Below w.heap.size w w' := by
 have hu30 := Try.underlying30
 have ah := Aside0.mk hr0
 have ai := Aside0.mk hc0
 clear hr0 hc0
 have HB := Aside0.mk (Below.refl w.heap.size w)
 have H : (if (l0.length : Int) > 40 then (whirligiglaw01_AddrPlain.j0 k l0 a1 (decide ((l0.length : Int) ≤ 1024))) else (whirligiglaw01_AddrPlain.j0 k l0 a1 false)) = some r := h
 clear h
 have HC3 := Aside0.mk H
 clear H
 go_enter Try.func3, Try.ntmps3
 go_upto_region 1 with (fail)
 go_cut [22] (fun v22 wc => ∃ (kq : Nat) (x22_2 : Bool), v22 = .bool x22_2 ∧ Aside0 (whirligiglaw01_AddrPlain.j0 kq l0 a1 x22_2 = some r) ∧ Aside0 (kq ≤ k) ∧ Aside0 (Below w.heap.size w wc))
 case first =>
  have H := HC3.out
  clear HC3
  by_cases c4 : (l0.length : Int) > 40
  ·rw [if_pos c4] at H
   have c4b0 : decide (40 < (l0.length : Int)) = true := decide_eq_true c4
   have c4b1 : decide (40 < l0.length) = true := decide_eq_true (by omega)
   clear c4
   (first | rw [c4b0] | (simp only [i64_w]; rw [c4b0]) | skip)
   have H' := Aside0.mk H
   clear H
   go_wp2
   go_meet
   case rel => exact ⟨_, (decide ((l0.length : Int) ≤ 1024)), (by first | rfl | (simp; done) | (simp [*]; done)), H', ⟨by first | omega | exact Nat.le_refl _⟩, ⟨by repeat (first | (with_reducible first | exact HB.out | apply below_alloc | apply pw_below_drewN | apply below_drew1) | exact HB.out)⟩⟩
  ·rw [if_neg c4] at H
   have c4b0 : decide (40 < (l0.length : Int)) = false := decide_eq_false c4
   have c4b1 : decide (40 < l0.length) = false := decide_eq_false (by omega)
   clear c4
   (first | rw [c4b0] | (simp only [i64_w]; rw [c4b0]) | skip)
   have H' := Aside0.mk H
   clear H
   go_wp2
   go_meet
   case rel => exact ⟨_, (false), (by first | rfl | (simp; done) | (simp [*]; done)), H', ⟨by first | omega | exact Nat.le_refl _⟩, ⟨by repeat (first | (with_reducible first | exact HB.out | apply below_alloc | apply pw_below_drewN | apply below_drew1) | exact HB.out)⟩⟩
 case rest =>
  clear HC3
  try clear p2
  try clear c3
  try clear c4
  try clear c4b0
  try clear c4b1
  obtain ⟨kq, x22_2, rfl, HA, HJ2, HB⟩ := hcut
  cases kq with
  | zero => exact absurd HA.out (by simp [whirligiglaw01_AddrPlain.j0])
  | succ ag =>
   have H := HA.out
   clear HA
   simp only [whirligiglaw01_AddrPlain.j0] at H
   by_cases c5 : x22_2 = true
   ·subst c5
    have H1 : ((whirligiglaw01_lives.f ag).bind fun t211 => (some t211)) = some r := by rw [if_pos rfl] at H; exact H
    clear H
    have H := H1
    clear H1
    replace H := Option.bind_eq_some_iff.mp H
    obtain ⟨t211, A60, H⟩ := H
    replace H : (some t211) = some r := H
    have A6 := Aside0.mk A60
    clear A60
    obtain rfl := Option.some.inj H
    go_wp2_with (first | ((with_reducible refine gate_callee (f := 8) rfl ?_); refine goesL_ (some 23) rfl rfl Try.func8 (by kernel_rfl) rfl #[] rfl (by (try simp only [List.map_toArray, List.map_cons, List.map_nil]); first | done | rfl) ?_; (with_reducible refine (whirligiglaw01_lives.calls ag  t211 _ A6.out).mono ?_); rintro e w7 ⟨rfl, hb⟩; refine ⟨_, rfl, ?_⟩; replace HB := Aside0.mk (k01c6.z HB.out hb rfl rfl rfl rfl); (try clear hb); (try clear af); (try clear hk); (try clear hi)))
    go_ret
    exact ⟨by first | rfl | (simp [errW_none, errW_some] <;> rfl) | (simp [*, errW_none, errW_some] <;> rfl), by repeat (first | (with_reducible first | exact HB.out | apply below_alloc | apply pw_below_drewN | apply below_drew1) | exact HB.out)⟩
   ·replace c5 := Bool.eq_false_iff.mpr c5
    subst c5
    have H1 := H
    rw [if_neg (show ¬ (false = true) by decide)] at H1
    clear H
    have H := H1
    clear H1
    replace H := Option.bind_eq_some_iff.mp H
    obtain ⟨⟨t212, t213⟩, A80, H⟩ := H
    (try dsimp only at H)
    have A8 := Aside0.mk A80
    clear A80
    replace H := Option.bind_eq_some_iff.mp H
    obtain ⟨t216, A90, H⟩ := H
    (try dsimp only at H)
    have A9 := Aside0.mk A90
    clear A90
    by_cases ak : t216 = 0
    ·rw [if_pos ak] at H
     have c10b0 : (t216 == 0) = true := beq_iff_eq.mpr ak
     have c10b1 : (t216 != 0) = false := bne_eq_false_iff_eq.mpr ak
     clear ak
     have H' := Aside0.mk H
     clear H
     go_wp2_with (first | ((with_reducible refine gate_callee (f := 9) rfl ?_); refine goesL_ (some 26) rfl rfl Try.func9 (by kernel_rfl) rfl #[.slice A0 l0.length c0] rfl (by (try simp only [List.map_toArray, List.map_cons, List.map_nil]); first | done | rfl) ?_; (with_reducible refine (addr_Plain.calls ag _ _ l0 t212 t213 _ ?side1 ?side2 A8.out).mono ?_); (case side1 => repeat (first | exact (Kd.C_below ah.out HB.out) | (with_reducible refine Kd.C_alloc ?_ _) | (with_reducible refine Kd.C_drewN ?_ _) | (with_reducible refine Kd.C_drew ?_))); (case side2 => exact ai.out); rintro e w11 ⟨v214, rfl, ho0, hb⟩; refine ⟨_, rfl, ?_⟩; have aa := Aside0.mk (Kd.R_lower ho0 (below_size (by repeat (first | (with_reducible first | exact HB.out | apply below_alloc | apply pw_below_drewN | apply below_drew1) | exact HB.out)))); replace HB := Aside0.mk (k01c6.z HB.out hb rfl rfl rfl rfl); (try clear hb); (try clear af); (try clear hk); (try clear hi); (try clear ho0)) | ((with_reducible refine gate_callee (f := 10) rfl ?_); refine goesL_ (some 30) rfl rfl Try.func10 (by kernel_rfl) rfl #[.slice A0 l0.length c0] rfl (by (try simp only [List.map_toArray, List.map_cons, List.map_nil]); first | done | rfl) ?_; (with_reducible refine (whirligigref01_Why.calls ag _ _ l0 t216 _ ?side1 ?side2 A9.out).mono ?_); (case side1 => repeat (first | exact (Kd.C_below ah.out HB.out) | (with_reducible refine Kd.C_alloc ?_ _) | (with_reducible refine Kd.C_drewN ?_ _) | (with_reducible refine Kd.C_drew ?_))); (case side2 => exact ai.out); rintro e w12 ⟨rfl, hb⟩; refine ⟨_, rfl, ?_⟩; replace aa := Aside0.mk (Kd.R_below (by (with_reducible repeat (first | apply Kd.R_alloc | apply Kd.R_drewN | apply Kd.R_drew)); exact aa.out) hb); replace HB := Aside0.mk (k01c6.z HB.out hb rfl rfl rfl rfl); (try clear hb); (try clear af); (try clear hk); (try clear hi)))
     go_loopg [7, 8] ag (fun kq v7 v8 w' => ∃ (x7_2 : List (S30)) (x8_2 : Int), v8 = .int .i64 x8_2 ∧ Aside0 (whirligiglaw01_AddrPlain.l0 kq l0 a1 t212 t213 x7_2 x8_2 = some r) ∧ Aside0 (kq ≤ ag) ∧ Aside0 (Kd.R k30 30 w' w.heap.size (fun k_ => some k_ ≠ (v7 : Value).ownBlock) v214 t212) ∧ Aside0 (Kd.R k30 30 w' w.heap.size (fun k_ => some k_ ≠ (v214 : Value).ownBlock) v7 x7_2) ∧ Aside0 (Below w.heap.size w w'))
     case atStart => exact ⟨(([] : List (S30))), (wrap64 ((l0.length : Int) - 1)), (by first | rfl | (simp; done) | (simp [*]; done)), H', ⟨Nat.le_refl _⟩, ⟨by (with_reducible repeat (first | apply Kd.R_alloc | apply Kd.R_drewN | apply Kd.R_drew)); exact Kd.R_mono aa.out (fun _ hk => (by simp [Value.ownBlock]))⟩, ⟨by first | exact Kd.R_nil _ _ _ _ _ | exact Kd.N_nil _ _ _ _ _ | exact Kd.V_nil _ _ _ _ _ | exact Kd.Q_nil _ _ _ _ _ | exact Kd.S_nil _ _ _ _ _⟩, ⟨by repeat (first | (with_reducible first | exact HB.out | apply below_alloc | apply pw_below_drewN | apply below_drew1) | exact HB.out)⟩⟩
     case round =>
      clear H'
      try clear c1
      try clear p2
      try clear c3
      try clear c4
      try clear c4b0
      try clear c4b1
      try clear c5
      try clear p6
      try clear c8
      try clear c9
      try clear ak
      try clear c10b0
      try clear c10b1
      try clear p2
      obtain ⟨x7_2, x8_2, rfl, HA, HK2, HO_5, HO_7, HB⟩ := hrel
      cases gk with
      | zero => exact absurd HA.out (by simp [whirligiglaw01_AddrPlain.l0])
      | succ k2 =>
       have H := HA.out
       clear HA
       simp only [whirligiglaw01_AddrPlain.l0] at H
       by_cases ao : x8_2 ≥ 0
       ·rw [if_pos ao] at H
        have c13b0 : decide (0 ≤ x8_2) = true := decide_eq_true ao
        clear ao
        by_cases c14 : 0 ≤ x8_2
        ·rw [if_pos c14] at H
         have c14b0 : decide (0 ≤ x8_2) = true := decide_eq_true c14
         clear c14
         by_cases c15 : x8_2 < (l0.length : Int)
         ·rw [if_pos c15] at H
          have c15b0 : decide (x8_2 < (l0.length : Int)) = true := decide_eq_true c15
          clear c15
          by_cases c16 : x7_2.length < 8796093022208
          ·rw [if_pos c16] at H
           have LMc16 := Aside0.mk c16
           clear c16
           obtain ⟨y220, hy220⟩ : ∃ y_ : List (S30), y_ = (x7_2 ++ [(⟨(rd_T30 l0 x8_2).f0, (rd_T30 l0 x8_2).f1⟩ : S30)]) := ⟨_, rfl⟩
           replace H : (whirligiglaw01_AddrPlain.l0 k2 l0 a1 t212 t213 y220 (wrap64 (x8_2 - 1))) = some r := by first | (rw [hy220]; with_reducible exact H) | (have H2_ := (Option.bind_some _ _).symm.trans H; rw [hy220]; with_reducible exact H2_) | (have H2_ := (Option.bind_some _ _).symm.trans H; with_reducible exact H2_) | with_reducible exact H | (rw [hy220]; exact H) | exact H
           have Ny220 := Aside0.mk hy220
           clear hy220
           have H' := Aside0.mk H
           clear H
           have p219 : 0 ≤ (x8_2 : Int) := of_decide_eq_true (by first | (with_reducible assumption) | assumption)
           have q219 : x8_2 < (l0.length : Int) := of_decide_eq_true (by first | (with_reducible assumption) | assumption)
           obtain ⟨ad219, e219, hx219_0, hx219_1⟩ := at_T30 ah.out x8_2 p219 q219
           cases e219
           replace hx219_0 := (HB.out.cell (World.block_lt_of_cell? w _ hx219_0)).trans hx219_0
           replace hx219_1 := (HB.out.cell (World.block_lt_of_cell? w _ hx219_1)).trans hx219_1
           replace p219 := eq_true p219
           replace q219 := eq_true q219
           go_wp2_with (first | ((with_reducible refine gate_builtin (b := .append) (xs := #[.tmp 51, .tmp 56]) rfl ?_); (try (refine gate_guard (by rfl) ?_; dsimp only)); at_builtin; refine Kd.R_append k30 (w0 := w) w.heap.size rfl (.tmp 51) (.tmp 56) 22 30 (.agg #[(.int .u32 0), (.int .i64 0)]) 16 rfl Try.underlying22 info30 rfl (by decide) (by omega) u7 x7_2 (⟨(rd_T30 l0 x8_2).f0, (rd_T30 l0 x8_2).f1⟩ : S30) [.int .u32 ((rd_T30 l0 x8_2).f0), .int .i64 ((rd_T30 l0 x8_2).f1)] (fun k_ => some k_ ≠ (v214 : Value).ownBlock) (fun _ => False) rfl rfl ?aP (fun _ hk => hk.elim) ?aF ?aO ?aB ?aS ?aL ?_; (case aP => exact k30_mkM _ _ _ (⟨(rd_T30 l0 x8_2).f0, (rd_T30 l0 x8_2).f1⟩ : S30)); (case aB => exact (by repeat (first | (with_reducible first | exact HB.out | apply below_alloc | apply pw_below_drewN | apply below_drew1) | exact HB.out))); (case aF => exact (fun k_ hk => Kd.fresh' (Kd.R_lt (by (with_reducible repeat (first | apply Kd.R_alloc | apply Kd.R_drewN | apply Kd.R_drew)); exact HO_5.out)) k_ hk)); (case aO => exact (by (with_reducible repeat (first | apply Kd.R_alloc | apply Kd.R_drewN | apply Kd.R_drew)); exact HO_7.out)); (case aS => exact (below_size (by repeat (first | (with_reducible first | exact HB.out | apply below_alloc | apply pw_below_drewN | apply below_drew1) | exact HB.out)))); (case aL => have := LMc16.out; omega); intro v221 w17 ho hb hg hat; rw [← Ny220.out] at ho; replace HO_5 := Aside0.mk (Kd.R_after (ok := (fun _ => True)) (by (with_reducible repeat (first | apply Kd.R_alloc | apply Kd.R_drewN | apply Kd.R_drew)); exact Kd.R_mono HO_5.out (fun _ hk => ⟨trivial, hk⟩)) hg hat); replace HB := Aside0.mk (hb); have HO222 := Aside0.mk (ho); clear HO_7; clear ho hb hg hat))
           go_roundg k2
           case measure => have := HJ2.out; have := HK2.out; omega
           case rel => exact ⟨(y220), (wrap64 (x8_2 - 1)), (by first | rfl | (simp; done) | (simp [*]; done)), H', ⟨by have := HJ2.out; have := HK2.out; omega⟩, ⟨by (with_reducible repeat (first | apply Kd.R_alloc | apply Kd.R_drewN | apply Kd.R_drew)); exact Kd.R_mono HO_5.out (fun _ hk => hk.2)⟩, ⟨by (with_reducible repeat (first | apply Kd.R_alloc | apply Kd.R_drewN | apply Kd.R_drew)); exact HO222.out⟩, ⟨by repeat (first | (with_reducible first | exact HB.out | apply below_alloc | apply pw_below_drewN | apply below_drew1) | exact HB.out)⟩⟩
          ·rw [if_neg c16] at H
           exact absurd H (by simp)
         ·rw [if_neg c15] at H
          exact absurd H (by simp)
        ·rw [if_neg c14] at H
         exact absurd H (by simp)
       ·rw [if_neg ao] at H
        have c13b0 : decide (0 ≤ x8_2) = false := decide_eq_false ao
        clear ao
        replace H := Option.bind_eq_some_iff.mp H
        obtain ⟨⟨t223, t224⟩, A180, H⟩ := H
        (try dsimp only at H)
        have A18 := Aside0.mk A180
        clear A180
        replace H := Option.bind_eq_some_iff.mp H
        obtain ⟨⟨t227, t228⟩, A190, H⟩ := H
        (try dsimp only at H)
        have A19 := Aside0.mk A190
        clear A190
        have HC20 := Aside0.mk H
        clear H
        obtain ⟨Ao21, co21, eo21⟩ := Kd.R_slice HO_7.out
        subst eo21
        go_upto_region 13 with (first | ((with_reducible refine gate_callee (f := 9) rfl ?_); refine goesL_ (some 60) rfl rfl Try.func9 (by kernel_rfl) rfl #[.slice Ao21 x7_2.length co21] rfl (by (try simp only [List.map_toArray, List.map_cons, List.map_nil]); first | done | rfl) ?_; (with_reducible refine (addr_Plain.calls k2 _ _ x7_2 t223 t224 _ ?side1 ?side2 A18.out).mono ?_); (case side1 => repeat (first | exact (Kd.R_reads' HO_7.out).2.2 | (with_reducible refine Kd.C_alloc ?_ _) | (with_reducible refine Kd.C_drewN ?_ _) | (with_reducible refine Kd.C_drew ?_))); (case side2 => exact (Kd.R_reads' HO_7.out).2.1); rintro e w22 ⟨v225, rfl, ho0, hb⟩; refine ⟨_, rfl, ?_⟩; have n0_ := Aside0.mk (Kd.R_elder' (by (with_reducible repeat (first | apply Kd.R_alloc | apply Kd.R_drewN | apply Kd.R_drew)); exact HO_5.out) (Kd.R_base ho0) hb); have n1_ := Aside0.mk (Kd.R_elder' (by (with_reducible repeat (first | apply Kd.R_alloc | apply Kd.R_drewN | apply Kd.R_drew)); exact HO_7.out) (Kd.R_base ho0) hb); have n2_ := Aside0.mk (Kd.R_lower (Kd.R_new' (Kd.R_new' ho0 (Kd.R_lt (by (with_reducible repeat (first | apply Kd.R_alloc | apply Kd.R_drewN | apply Kd.R_drew)); exact HO_5.out))) (Kd.R_lt (by (with_reducible repeat (first | apply Kd.R_alloc | apply Kd.R_drewN | apply Kd.R_drew)); exact HO_7.out))) (below_size (by repeat (first | (with_reducible first | exact HB.out | apply below_alloc | apply pw_below_drewN | apply below_drew1) | exact HB.out)))); have n3_ := Aside0.mk (k01c6.z HB.out hb rfl rfl rfl rfl); clear HO_5; clear HO_7; clear HB; have HO_5 := n0_; have HO_7 := n1_; have ab := n2_; have HB := n3_; clear n0_ n1_ n2_ n3_; (try clear hb); (try clear af); (try clear hk); (try clear hi); (try clear ho0); obtain ⟨Ao23, co23, eo23⟩ := Kd.R_slice HO_5.out; subst eo23) | ((with_reducible refine gate_callee (f := 9) rfl ?_); refine goesL_ (some 65) rfl rfl Try.func9 (by kernel_rfl) rfl #[.slice Ao23 t212.length co23] rfl (by (try simp only [List.map_toArray, List.map_cons, List.map_nil]); first | done | rfl) ?_; (with_reducible refine (addr_Plain.calls k2 _ _ t212 t227 t228 _ ?side1 ?side2 A19.out).mono ?_); (case side1 => repeat (first | exact (Kd.R_reads' HO_5.out).2.2 | (with_reducible refine Kd.C_alloc ?_ _) | (with_reducible refine Kd.C_drewN ?_ _) | (with_reducible refine Kd.C_drew ?_))); (case side2 => exact (Kd.R_reads' HO_5.out).2.1); rintro e w24 ⟨v229, rfl, ho0, hb⟩; refine ⟨_, rfl, ?_⟩; have n0_ := Aside0.mk (Kd.R_elder' (by (with_reducible repeat (first | apply Kd.R_alloc | apply Kd.R_drewN | apply Kd.R_drew)); exact HO_5.out) (Kd.R_base ho0) hb); have n1_ := Aside0.mk (Kd.R_elder' (by (with_reducible repeat (first | apply Kd.R_alloc | apply Kd.R_drewN | apply Kd.R_drew)); exact HO_7.out) (Kd.R_base ho0) hb); have n2_ := Aside0.mk (Kd.R_elder' (by (with_reducible repeat (first | apply Kd.R_alloc | apply Kd.R_drewN | apply Kd.R_drew)); exact ab.out) (Kd.R_base ho0) hb); have n3_ := Aside0.mk (Kd.R_lower (Kd.R_new' (Kd.R_new' (Kd.R_new' ho0 (Kd.R_lt (by (with_reducible repeat (first | apply Kd.R_alloc | apply Kd.R_drewN | apply Kd.R_drew)); exact HO_5.out))) (Kd.R_lt (by (with_reducible repeat (first | apply Kd.R_alloc | apply Kd.R_drewN | apply Kd.R_drew)); exact HO_7.out))) (Kd.R_lt (by (with_reducible repeat (first | apply Kd.R_alloc | apply Kd.R_drewN | apply Kd.R_drew)); exact ab.out))) (below_size (by repeat (first | (with_reducible first | exact HB.out | apply below_alloc | apply pw_below_drewN | apply below_drew1) | exact HB.out)))); have n4_ := Aside0.mk (k01c6.z HB.out hb rfl rfl rfl rfl); clear HO_5; clear HO_7; clear ab; clear HB; have HO_5 := n0_; have HO_7 := n1_; have ab := n2_; have ad := n3_; have HB := n4_; clear n0_ n1_ n2_ n3_ n4_; (try clear hb); (try clear af); (try clear hk); (try clear hi); (try clear ho0)))
        (try simp only [Act.put, List.setIfInBounds_toArray, List.set_cons_zero, List.set_cons_succ])
        go_cut [94] (fun v94 wc => ∃ (kq : Nat) (x94_19 : Bool), v94 = .bool x94_19 ∧ Aside0 (whirligiglaw01_AddrPlain.j2 kq l0 a1 t212 x94_19 = some r) ∧ Aside0 (kq ≤ k2) ∧ Aside0 (Kd.R k30 30 wc w.heap.size (fun _ => True) (.slice Ao23 t212.length co23) t212) ∧ Aside0 (Below w.heap.size w wc))
        case first =>
         have H := HC20.out
         clear HC20
         by_cases al : t213 = 0
         ·rw [if_pos al] at H
          have c25b0 : (t213 == 0) = true := beq_iff_eq.mpr al
          have c25b1 : (t213 != 0) = false := bne_eq_false_iff_eq.mpr al
          clear al
          (first | rw [c25b0] | (simp only [i64_w]; rw [c25b0]) | skip)
          by_cases am : t224 = 0
          ·rw [if_pos am] at H
           have c26b0 : (t224 == 0) = true := beq_iff_eq.mpr am
           have c26b1 : (t224 != 0) = false := bne_eq_false_iff_eq.mpr am
           clear am
           by_cases an : t228 = 0
           ·rw [if_pos an] at H
            have c27b0 : (t228 == 0) = true := beq_iff_eq.mpr an
            have c27b1 : (t228 != 0) = false := bne_eq_false_iff_eq.mpr an
            clear an
            replace H := Option.bind_eq_some_iff.mp H
            obtain ⟨t231, A280, H⟩ := H
            (try dsimp only at H)
            have A28 := Aside0.mk A280
            clear A280
            by_cases c29 : t231 = true
            ·subst c29
             have H1 := H
             rw [if_pos rfl] at H1
             clear H
             have H := H1
             clear H1
             replace H := Option.bind_eq_some_iff.mp H
             obtain ⟨t232, A300, H⟩ := H
             (try dsimp only at H)
             have A30 := Aside0.mk A300
             clear A300
             by_cases c31 : t232 = true
             ·subst c31
              have H1 : ((whirligigref01_Same.f k2 t212 t227).bind fun t233 => (whirligiglaw01_AddrPlain.j2 k2 l0 a1 t212 (!t233))) = some r := by rw [if_pos rfl] at H; exact H
              clear H
              have H := H1
              clear H1
              replace H := Option.bind_eq_some_iff.mp H
              obtain ⟨t233, A320, H⟩ := H
              replace H : (whirligiglaw01_AddrPlain.j2 k2 l0 a1 t212 (!t233)) = some r := H
              have A32 := Aside0.mk A320
              clear A320
              have H' := Aside0.mk H
              clear H
              go_wp2_with (first | (go_at_call 11; (with_reducible refine (whirligigref01_IsPlain.calls k2 _ _ t212 true _ ?side1 ?side2 A28.out).mono ?_); (case side1 => repeat (first | exact (Kd.R_reads' HO_5.out).2.2 | (with_reducible refine Kd.C_alloc ?_ _) | (with_reducible refine Kd.C_drewN ?_ _) | (with_reducible refine Kd.C_drew ?_))); (case side2 => exact (Kd.R_reads' HO_5.out).2.1); rintro e w33 ⟨rfl, hb⟩; replace HO_5 := Aside0.mk (Kd.R_below (by (with_reducible repeat (first | apply Kd.R_alloc | apply Kd.R_drewN | apply Kd.R_drew)); exact HO_5.out) hb); replace HO_7 := Aside0.mk (Kd.R_below (by (with_reducible repeat (first | apply Kd.R_alloc | apply Kd.R_drewN | apply Kd.R_drew)); exact HO_7.out) hb); replace ab := Aside0.mk (Kd.R_below (by (with_reducible repeat (first | apply Kd.R_alloc | apply Kd.R_drewN | apply Kd.R_drew)); exact ab.out) hb); replace ad := Aside0.mk (Kd.R_below (by (with_reducible repeat (first | apply Kd.R_alloc | apply Kd.R_drewN | apply Kd.R_drew)); exact ad.out) hb); replace HB := Aside0.mk (k01c6.z HB.out hb rfl rfl rfl rfl); (try clear hb); (try clear af); (try clear hk); (try clear hi); obtain ⟨Ao34, co34, eo34⟩ := Kd.R_slice ab.out; subst eo34) | (go_at_call 12; (with_reducible refine (whirligigref01_Same.calls k2 _ _ t212 _ _ t223 true _ ?side1 ?side2 ?side3 ?side4 A30.out).mono ?_); (case side1 | side3 => repeat (first | exact (Kd.R_reads' HO_5.out).2.2 | exact (Kd.R_reads' ab.out).2.2 | (with_reducible refine Kd.C_alloc ?_ _) | (with_reducible refine Kd.C_drewN ?_ _) | (with_reducible refine Kd.C_drew ?_))); (case side2 | side4 => first | exact (Kd.R_reads' HO_5.out).2.1 | exact (Kd.R_reads' ab.out).2.1); rintro e w' ⟨rfl, ⟨nd, rfl⟩⟩; obtain ⟨Ao35, co35, eo35⟩ := Kd.R_slice ad.out; subst eo35) | (go_at_call 12; (with_reducible refine (whirligigref01_Same.calls k2 _ _ t212 _ _ t227 t233 _ ?side1 ?side2 ?side3 ?side4 A32.out).mono ?_); (case side1 | side3 => repeat (first | exact (Kd.R_reads' HO_5.out).2.2 | exact (Kd.R_reads' ad.out).2.2 | (with_reducible refine Kd.C_alloc ?_ _) | (with_reducible refine Kd.C_drewN ?_ _) | (with_reducible refine Kd.C_drew ?_))); (case side2 | side4 => first | exact (Kd.R_reads' HO_5.out).2.1 | exact (Kd.R_reads' ad.out).2.1); rintro e w' ⟨rfl, ⟨nd, rfl⟩⟩))
              go_meet
              case rel => exact ⟨_, (!t233), (by first | rfl | (simp; done) | (simp [*]; done)), H', ⟨by have := HJ2.out; have := HK2.out; first | omega | exact Nat.le_refl _⟩, ⟨by (with_reducible repeat (first | apply Kd.R_alloc | apply Kd.R_drewN | apply Kd.R_drew)); exact Kd.R_mono HO_5.out (fun _ hk => trivial)⟩, ⟨by repeat (first | (with_reducible first | exact HB.out | apply below_alloc | apply pw_below_drewN | apply below_drew1) | exact HB.out)⟩⟩
             ·replace c31 := Bool.eq_false_iff.mpr c31
              subst c31
              have H1 : (whirligiglaw01_AddrPlain.j2 k2 l0 a1 t212 true) = some r := by rw [if_neg (show ¬ (false = true) by decide)] at H; exact H
              clear H
              have H := H1
              clear H1
              have H' := Aside0.mk H
              clear H
              go_wp2_with (first | (go_at_call 11; (with_reducible refine (whirligigref01_IsPlain.calls k2 _ _ t212 true _ ?side1 ?side2 A28.out).mono ?_); (case side1 => repeat (first | exact (Kd.R_reads' HO_5.out).2.2 | (with_reducible refine Kd.C_alloc ?_ _) | (with_reducible refine Kd.C_drewN ?_ _) | (with_reducible refine Kd.C_drew ?_))); (case side2 => exact (Kd.R_reads' HO_5.out).2.1); rintro e w36 ⟨rfl, hb⟩; replace HO_5 := Aside0.mk (Kd.R_below (by (with_reducible repeat (first | apply Kd.R_alloc | apply Kd.R_drewN | apply Kd.R_drew)); exact HO_5.out) hb); replace HO_7 := Aside0.mk (Kd.R_below (by (with_reducible repeat (first | apply Kd.R_alloc | apply Kd.R_drewN | apply Kd.R_drew)); exact HO_7.out) hb); replace ab := Aside0.mk (Kd.R_below (by (with_reducible repeat (first | apply Kd.R_alloc | apply Kd.R_drewN | apply Kd.R_drew)); exact ab.out) hb); replace ad := Aside0.mk (Kd.R_below (by (with_reducible repeat (first | apply Kd.R_alloc | apply Kd.R_drewN | apply Kd.R_drew)); exact ad.out) hb); replace HB := Aside0.mk (k01c6.z HB.out hb rfl rfl rfl rfl); (try clear hb); (try clear af); (try clear hk); (try clear hi); obtain ⟨Ao37, co37, eo37⟩ := Kd.R_slice ab.out; subst eo37) | (go_at_call 12; (with_reducible refine (whirligigref01_Same.calls k2 _ _ t212 _ _ t223 false _ ?side1 ?side2 ?side3 ?side4 A30.out).mono ?_); (case side1 | side3 => repeat (first | exact (Kd.R_reads' HO_5.out).2.2 | exact (Kd.R_reads' ab.out).2.2 | (with_reducible refine Kd.C_alloc ?_ _) | (with_reducible refine Kd.C_drewN ?_ _) | (with_reducible refine Kd.C_drew ?_))); (case side2 | side4 => first | exact (Kd.R_reads' HO_5.out).2.1 | exact (Kd.R_reads' ab.out).2.1); rintro e w' ⟨rfl, ⟨nd, rfl⟩⟩))
              go_meet
              case rel => exact ⟨_, (true), (by first | rfl | (simp; done) | (simp [*]; done)), H', ⟨by have := HJ2.out; have := HK2.out; first | omega | exact Nat.le_refl _⟩, ⟨by (with_reducible repeat (first | apply Kd.R_alloc | apply Kd.R_drewN | apply Kd.R_drew)); exact Kd.R_mono HO_5.out (fun _ hk => trivial)⟩, ⟨by repeat (first | (with_reducible first | exact HB.out | apply below_alloc | apply pw_below_drewN | apply below_drew1) | exact HB.out)⟩⟩
            ·replace c29 := Bool.eq_false_iff.mpr c29
             subst c29
             have H1 : (whirligiglaw01_AddrPlain.j2 k2 l0 a1 t212 true) = some r := by rw [if_neg (show ¬ (false = true) by decide)] at H; exact H
             clear H
             have H := H1
             clear H1
             have H' := Aside0.mk H
             clear H
             go_wp2_with (first | (go_at_call 11; (with_reducible refine (whirligigref01_IsPlain.calls k2 _ _ t212 false _ ?side1 ?side2 A28.out).mono ?_); (case side1 => repeat (first | exact (Kd.R_reads' HO_5.out).2.2 | (with_reducible refine Kd.C_alloc ?_ _) | (with_reducible refine Kd.C_drewN ?_ _) | (with_reducible refine Kd.C_drew ?_))); (case side2 => exact (Kd.R_reads' HO_5.out).2.1); rintro e w38 ⟨rfl, hb⟩; replace HO_5 := Aside0.mk (Kd.R_below (by (with_reducible repeat (first | apply Kd.R_alloc | apply Kd.R_drewN | apply Kd.R_drew)); exact HO_5.out) hb); replace HO_7 := Aside0.mk (Kd.R_below (by (with_reducible repeat (first | apply Kd.R_alloc | apply Kd.R_drewN | apply Kd.R_drew)); exact HO_7.out) hb); replace ab := Aside0.mk (Kd.R_below (by (with_reducible repeat (first | apply Kd.R_alloc | apply Kd.R_drewN | apply Kd.R_drew)); exact ab.out) hb); replace ad := Aside0.mk (Kd.R_below (by (with_reducible repeat (first | apply Kd.R_alloc | apply Kd.R_drewN | apply Kd.R_drew)); exact ad.out) hb); replace HB := Aside0.mk (k01c6.z HB.out hb rfl rfl rfl rfl); (try clear hb); (try clear af); (try clear hk); (try clear hi)))
             go_meet
             case rel => exact ⟨_, (true), (by first | rfl | (simp; done) | (simp [*]; done)), H', ⟨by have := HJ2.out; have := HK2.out; first | omega | exact Nat.le_refl _⟩, ⟨by (with_reducible repeat (first | apply Kd.R_alloc | apply Kd.R_drewN | apply Kd.R_drew)); exact Kd.R_mono HO_5.out (fun _ hk => trivial)⟩, ⟨by repeat (first | (with_reducible first | exact HB.out | apply below_alloc | apply pw_below_drewN | apply below_drew1) | exact HB.out)⟩⟩
           ·rw [if_neg an] at H
            have c27b0 : (t228 == 0) = false := beq_eq_false_iff_ne.mpr an
            have c27b1 : (t228 != 0) = true := bne_iff_ne.mpr an
            have H' := Aside0.mk H
            clear H
            go_wp2
            go_meet
            case rel => exact ⟨_, (true), (by first | rfl | (simp; done) | (simp [*]; done)), H', ⟨by have := HJ2.out; have := HK2.out; first | omega | exact Nat.le_refl _⟩, ⟨by (with_reducible repeat (first | apply Kd.R_alloc | apply Kd.R_drewN | apply Kd.R_drew)); exact Kd.R_mono HO_5.out (fun _ hk => trivial)⟩, ⟨by repeat (first | (with_reducible first | exact HB.out | apply below_alloc | apply pw_below_drewN | apply below_drew1) | exact HB.out)⟩⟩
          ·rw [if_neg am] at H
           have c26b0 : (t224 == 0) = false := beq_eq_false_iff_ne.mpr am
           have c26b1 : (t224 != 0) = true := bne_iff_ne.mpr am
           have H' := Aside0.mk H
           clear H
           go_wp2
           go_meet
           case rel => exact ⟨_, (true), (by first | rfl | (simp; done) | (simp [*]; done)), H', ⟨by have := HJ2.out; have := HK2.out; first | omega | exact Nat.le_refl _⟩, ⟨by (with_reducible repeat (first | apply Kd.R_alloc | apply Kd.R_drewN | apply Kd.R_drew)); exact Kd.R_mono HO_5.out (fun _ hk => trivial)⟩, ⟨by repeat (first | (with_reducible first | exact HB.out | apply below_alloc | apply pw_below_drewN | apply below_drew1) | exact HB.out)⟩⟩
         ·rw [if_neg al] at H
          have c25b0 : (t213 == 0) = false := beq_eq_false_iff_ne.mpr al
          have c25b1 : (t213 != 0) = true := bne_iff_ne.mpr al
          (first | rw [c25b0] | (simp only [i64_w]; rw [c25b0]) | skip)
          have H' := Aside0.mk H
          clear H
          go_wp2
          go_meet
          case rel => exact ⟨_, (true), (by first | rfl | (simp; done) | (simp [*]; done)), H', ⟨by have := HJ2.out; have := HK2.out; first | omega | exact Nat.le_refl _⟩, ⟨by (with_reducible repeat (first | apply Kd.R_alloc | apply Kd.R_drewN | apply Kd.R_drew)); exact Kd.R_mono HO_5.out (fun _ hk => trivial)⟩, ⟨by repeat (first | (with_reducible first | exact HB.out | apply below_alloc | apply pw_below_drewN | apply below_drew1) | exact HB.out)⟩⟩
        case rest =>
         clear HC20
         try clear c1
         try clear c2
         try clear p2
         try clear q2
         try clear hx2
         try clear c3
         try clear c4
         try clear c4b0
         try clear c4b1
         try clear c5
         try clear p6
         try clear c8
         try clear c9
         try clear ak
         try clear c10b0
         try clear c10b1
         try clear ao
         try clear c13b0
         try clear c14
         try clear c14b0
         try clear c15
         try clear c15b0
         try clear c16
         try clear p21
         try clear q21
         try clear hx21
         try clear al
         try clear c25b0
         try clear c25b1
         try clear am
         try clear c26b0
         try clear c26b1
         try clear an
         try clear c27b0
         try clear c27b1
         try clear c29
         try clear c31
         try clear hx219_0
         try clear hx219_1
         try clear p2
         try clear p219
         try clear p6
         try clear q219
         obtain ⟨kq, x94_19, rfl, HA, HJ19, HO_5, HB⟩ := hcut
         cases kq with
         | zero => exact absurd HA.out (by simp [whirligiglaw01_AddrPlain.j2])
         | succ kj19 =>
          have H := HA.out
          clear HA
          simp only [whirligiglaw01_AddrPlain.j2] at H
          by_cases c39 : x94_19 = true
          ·subst c39
           have H1 : (some false) = some r := by rw [if_pos rfl] at H; exact H
           clear H
           have H := H1
           clear H1
           obtain rfl := Option.some.inj H
           go_wp2
           go_ret
           exact ⟨by first | rfl | (simp [errW_none, errW_some] <;> rfl) | (simp [*, errW_none, errW_some] <;> rfl), by repeat (first | (with_reducible first | exact HB.out | apply below_alloc | apply pw_below_drewN | apply below_drew1) | exact HB.out)⟩
          ·replace c39 := Bool.eq_false_iff.mpr c39
           subst c39
           have H1 := H
           rw [if_neg (show ¬ (false = true) by decide)] at H1
           clear H
           have H := H1
           clear H1
           replace H := Option.bind_eq_some_iff.mp H
           obtain ⟨t234, A400, H⟩ := H
           (try dsimp only at H)
           have A40 := Aside0.mk A400
           clear A400
           replace H := Option.bind_eq_some_iff.mp H
           obtain ⟨t237, A410, H⟩ := H
           (try dsimp only at H)
           have A41 := Aside0.mk A410
           clear A410
           by_cases c42 : t234.length + t237.length < 35184372088832
           ·rw [if_pos c42] at H
            have LMc42 := Aside0.mk c42
            clear c42
            obtain ⟨y240, hy240⟩ : ∃ y_ : List Int, y_ = (t234 ++ t237) := ⟨_, rfl⟩
            replace H : (if y240.length < 35184372088832 then (whirligiglaw01_AddrPlain.l1 kj19 l0 t212 (y240 ++ [a1]) 0) else (none)) = some r := by first | (rw [hy240]; with_reducible exact H) | (have H2_ := (Option.bind_some _ _).symm.trans H; rw [hy240]; with_reducible exact H2_) | (have H2_ := (Option.bind_some _ _).symm.trans H; with_reducible exact H2_) | with_reducible exact H | (rw [hy240]; exact H) | exact H
            have Ny240 := Aside0.mk hy240
            clear hy240
            by_cases c43 : y240.length < 35184372088832
            ·rw [if_pos c43] at H
             have LMc43 := Aside0.mk c43
             clear c43
             obtain ⟨ac, hy243⟩ : ∃ y_ : List Int, y_ = (y240 ++ [a1]) := ⟨_, rfl⟩
             replace H : (whirligiglaw01_AddrPlain.l1 kj19 l0 t212 ac 0) = some r := by first | (rw [hy243]; with_reducible exact H) | (have H2_ := (Option.bind_some _ _).symm.trans H; rw [hy243]; with_reducible exact H2_) | (have H2_ := (Option.bind_some _ _).symm.trans H; with_reducible exact H2_) | with_reducible exact H | (rw [hy243]; exact H) | exact H
             have Ny243 := Aside0.mk hy243
             clear hy243
             have H' := Aside0.mk H
             clear H
             go_wp2_with (first | ((with_reducible refine gate_callee (f := 13) rfl ?_); refine goesL_ (some 96) rfl rfl Try.func13 (by kernel_rfl) rfl #[.slice A0 l0.length c0] rfl (by (try simp only [List.map_toArray, List.map_cons, List.map_nil]); first | done | rfl) ?_; (with_reducible refine (whirligigref01_Edges.calls kj19 _ _ l0 t234 _ ?side1 ?side2 A40.out).mono ?_); (case side1 => repeat (first | exact (Kd.C_below ah.out HB.out) | (with_reducible refine Kd.C_alloc ?_ _) | (with_reducible refine Kd.C_drewN ?_ _) | (with_reducible refine Kd.C_drew ?_))); (case side2 => exact ai.out); rintro e w44 ⟨v235, rfl, ho0, hb⟩; refine ⟨_, rfl, ?_⟩; replace HO_5 := Aside0.mk (Kd.R_below (by (with_reducible repeat (first | apply Kd.R_alloc | apply Kd.R_drewN | apply Kd.R_drew)); exact HO_5.out) hb); have HO236 := Aside0.mk (Kd.R_lower ho0 (below_size (by repeat (first | (with_reducible first | exact HB.out | apply below_alloc | apply pw_below_drewN | apply below_drew1) | exact HB.out)))); replace HB := Aside0.mk (k01c6.z HB.out hb rfl rfl rfl rfl); (try clear hb); (try clear af); (try clear hk); (try clear hi); (try clear ho0)) | ((with_reducible refine gate_callee (f := 13) rfl ?_); refine goesL_ (some 99) rfl rfl Try.func13 (by kernel_rfl) rfl #[.slice Ao23 t212.length co23] rfl (by (try simp only [List.map_toArray, List.map_cons, List.map_nil]); first | done | rfl) ?_; (with_reducible refine (whirligigref01_Edges.calls kj19 _ _ t212 t237 _ ?side1 ?side2 A41.out).mono ?_); (case side1 => repeat (first | exact (Kd.R_reads' HO_5.out).2.2 | (with_reducible refine Kd.C_alloc ?_ _) | (with_reducible refine Kd.C_drewN ?_ _) | (with_reducible refine Kd.C_drew ?_))); (case side2 => exact (Kd.R_reads' HO_5.out).2.1); rintro e w45 ⟨v238, rfl, ho0, hb⟩; refine ⟨_, rfl, ?_⟩; have n0_ := Aside0.mk (Kd.R_below (by (with_reducible repeat (first | apply Kd.R_alloc | apply Kd.R_drewN | apply Kd.R_drew)); exact HO_5.out) hb); have n1_ := Aside0.mk (Kd.R_elder' (by (with_reducible repeat (first | apply Kd.R_alloc | apply Kd.R_drewN | apply Kd.R_drew)); exact HO236.out) (Kd.R_base ho0) hb); have n2_ := Aside0.mk (Kd.R_lower (Kd.R_new' ho0 (Kd.R_lt (by (with_reducible repeat (first | apply Kd.R_alloc | apply Kd.R_drewN | apply Kd.R_drew)); exact HO236.out))) (below_size (by repeat (first | (with_reducible first | exact HB.out | apply below_alloc | apply pw_below_drewN | apply below_drew1) | exact HB.out)))); have n3_ := Aside0.mk (k01c6.z HB.out hb rfl rfl rfl rfl); clear HO_5; clear HO236; clear HB; have HO_5 := n0_; have HO236 := n1_; have ae := n2_; have HB := n3_; clear n0_ n1_ n2_ n3_; (try clear hb); (try clear af); (try clear hk); (try clear hi); (try clear ho0); obtain ⟨Ao47, co47, eo47⟩ := Kd.R_slice ae.out; subst eo47) | ((with_reducible refine gate_builtin (b := .append) (xs := #[.tmp 97, .tmp 99]) rfl ?_); (try (refine gate_guard (by rfl) ?_; dsimp only)); at_builtin; refine Kd.R_append_rows (Kd.int .u32) (w0 := w) w.heap.size rfl (.tmp 97) (.tmp 99) 33 23 (.int .u32 0) 4 rfl Try.underlying33 info23 rfl (by decide) (by omega) v235 t234 t237 _ _ _ (fun k_ => some k_ ≠ (.slice Ao47 t237.length co47 : Value).ownBlock) (fun _ => False) rfl rfl ?aO ?aR (fun _ _ h => h) (fun _ h => h.elim) ?aF ?aB ?aS ?aL ?_; (case aR => repeat (first | exact (Kd.R_reads' ae.out).2.2 | (with_reducible refine Kd.C_alloc ?_ _) | (with_reducible refine Kd.C_drewN ?_ _) | (with_reducible refine Kd.C_drew ?_))); (case aB => exact (by repeat (first | (with_reducible first | exact HB.out | apply below_alloc | apply pw_below_drewN | apply below_drew1) | exact HB.out))); (case aF => exact (fun k_ hk => Kd.fresh' (Kd.R_lt (by (with_reducible repeat (first | apply Kd.R_alloc | apply Kd.R_drewN | apply Kd.R_drew)); exact ae.out)) k_ hk)); (case aO => exact (by (with_reducible repeat (first | apply Kd.R_alloc | apply Kd.R_drewN | apply Kd.R_drew)); exact Kd.R_mono HO236.out (fun _ hk => hk.2))); (case aS => exact (below_size (by repeat (first | (with_reducible first | exact HB.out | apply below_alloc | apply pw_below_drewN | apply below_drew1) | exact HB.out)))); (case aL => have := LMc42.out; omega); intro v241 w46 ho hb hg hat; rw [← Ny240.out] at ho; replace HO_5 := Aside0.mk (Kd.R_over' (by (with_reducible repeat (first | apply Kd.R_alloc | apply Kd.R_drewN | apply Kd.R_drew)); exact HO_5.out) (Kd.R_typed (by (with_reducible repeat (first | apply Kd.R_alloc | apply Kd.R_drewN | apply Kd.R_drew)); exact HO236.out)) (by decide) hg); replace ae := Aside0.mk (Kd.R_after (ok := (fun _ => True)) (by (with_reducible repeat (first | apply Kd.R_alloc | apply Kd.R_drewN | apply Kd.R_drew)); exact ae.out) hg hat); replace HB := Aside0.mk (hb); have HO242 := Aside0.mk (ho); clear HO236; clear ho hb hg hat) | ((with_reducible refine gate_builtin (b := .append) (xs := #[.tmp 101, .tmp 103]) rfl ?_); (try (refine gate_guard (by rfl) ?_; dsimp only)); at_builtin; refine Kd.R_append (Kd.int .u32) (w0 := w) w.heap.size rfl (.tmp 101) (.tmp 103) 33 23 (.int .u32 0) 4 rfl Try.underlying33 info23 rfl (by decide) (by omega) v241 y240 a1 [.int .u32 a1] (fun k_ => some k_ ≠ (.slice Ao47 t237.length co47 : Value).ownBlock) (fun _ => False) rfl rfl ?aP (fun _ hk => hk.elim) ?aF ?aO ?aB ?aS ?aL ?_; (case aP => exact rfl); (case aB => exact (by repeat (first | (with_reducible first | exact HB.out | apply below_alloc | apply pw_below_drewN | apply below_drew1) | exact HB.out))); (case aF => exact (fun k_ hk => Kd.fresh' (Kd.R_lt (by (with_reducible repeat (first | apply Kd.R_alloc | apply Kd.R_drewN | apply Kd.R_drew)); exact ae.out)) k_ hk)); (case aO => exact (by (with_reducible repeat (first | apply Kd.R_alloc | apply Kd.R_drewN | apply Kd.R_drew)); exact HO242.out)); (case aS => exact (below_size (by repeat (first | (with_reducible first | exact HB.out | apply below_alloc | apply pw_below_drewN | apply below_drew1) | exact HB.out)))); (case aL => have := LMc43.out; omega); intro v244 w48 ho hb hg hat; rw [← Ny243.out] at ho; replace HO_5 := Aside0.mk (Kd.R_over' (by (with_reducible repeat (first | apply Kd.R_alloc | apply Kd.R_drewN | apply Kd.R_drew)); exact HO_5.out) (Kd.R_typed (by (with_reducible repeat (first | apply Kd.R_alloc | apply Kd.R_drewN | apply Kd.R_drew)); exact HO242.out)) (by decide) hg); replace ae := Aside0.mk (Kd.R_after (ok := (fun _ => True)) (by (with_reducible repeat (first | apply Kd.R_alloc | apply Kd.R_drewN | apply Kd.R_drew)); exact ae.out) hg hat); replace HB := Aside0.mk (hb); have HO245 := Aside0.mk (ho); clear HO242; clear ho hb hg hat))
             go_loopg [14] kj19 (fun kq v14 w' => ∃ (x14_4 : Int), v14 = .int .i64 x14_4 ∧ Aside0 (whirligiglaw01_AddrPlain.l1 kq l0 t212 ac x14_4 = some r) ∧ Aside0 (kq ≤ kj19) ∧ Aside0 (Kd.R k30 30 w' w.heap.size (fun _ => True) (.slice Ao23 t212.length co23) t212) ∧ Aside0 (Kd.R (Kd.int .u32) 23 w' w.heap.size (fun _ => True) v244 ac) ∧ Aside0 (Below w.heap.size w w'))
             case atStart => exact ⟨(0), (by first | rfl | (simp; done) | (simp [*]; done)), H', ⟨Nat.le_refl _⟩, ⟨by (with_reducible repeat (first | apply Kd.R_alloc | apply Kd.R_drewN | apply Kd.R_drew)); exact HO_5.out⟩, ⟨by (with_reducible repeat (first | apply Kd.R_alloc | apply Kd.R_drewN | apply Kd.R_drew)); exact Kd.R_mono HO245.out (fun _ hk => trivial)⟩, ⟨by repeat (first | (with_reducible first | exact HB.out | apply below_alloc | apply pw_below_drewN | apply below_drew1) | exact HB.out)⟩⟩
             case round =>
              clear H'
              try clear c1
              try clear c2
              try clear p2
              try clear q2
              try clear hx2
              try clear c3
              try clear c4
              try clear c4b0
              try clear c4b1
              try clear c5
              try clear p6
              try clear c8
              try clear c9
              try clear ak
              try clear c10b0
              try clear c10b1
              try clear ao
              try clear c13b0
              try clear c14
              try clear c14b0
              try clear c15
              try clear c15b0
              try clear c16
              try clear p21
              try clear q21
              try clear hx21
              try clear al
              try clear c25b0
              try clear c25b1
              try clear am
              try clear c26b0
              try clear c26b1
              try clear an
              try clear c27b0
              try clear c27b1
              try clear c29
              try clear c31
              try clear c39
              try clear c42
              try clear c43
              try clear hx219_0
              try clear hx219_1
              try clear p2
              try clear p21
              try clear p219
              try clear p6
              try clear q2
              try clear q21
              try clear q219
              obtain ⟨x14_4, rfl, HA, HK4, HO_5, HO_13, HB⟩ := hrel
              cases gk with
              | zero => exact absurd HA.out (by simp [whirligiglaw01_AddrPlain.l1])
              | succ k4 =>
               have H := HA.out
               clear HA
               simp only [whirligiglaw01_AddrPlain.l1] at H
               by_cases c49 : x14_4 < (ac.length : Int)
               ·rw [if_pos c49] at H
                have c49b0 : decide (x14_4 < (ac.length : Int)) = true := decide_eq_true c49
                clear c49
                by_cases c50 : 0 ≤ x14_4
                ·rw [if_pos c50] at H
                 have c50b0 : decide (0 ≤ x14_4) = true := decide_eq_true c50
                 clear c50
                 replace H := Option.bind_eq_some_iff.mp H
                 obtain ⟨t248, A510, H⟩ := H
                 (try dsimp only at H)
                 have A51 := Aside0.mk A510
                 clear A510
                 replace H := Option.bind_eq_some_iff.mp H
                 obtain ⟨t250, A520, H⟩ := H
                 (try dsimp only at H)
                 have A52 := Aside0.mk A520
                 clear A520
                 by_cases aj : (t248 != t250) = true
                 ·rw [if_pos aj] at H
                  have c53b0 : (t248 != t250) = true := aj
                  (try (have c53b1 : decide (t248 = t250) = false := by simpa using aj))
                  (try (have c53b2 : (t248 == t250) = false := by simpa using aj))
                  (try (have c53b3 : ¬ (t248 = t250) := by simpa using aj))
                  clear aj
                  obtain rfl := Option.some.inj H
                  obtain ⟨Ao54, co54, eo54⟩ := Kd.R_slice HO_13.out
                  subst eo54
                  try go_wp2
                  replace HO_5 := Aside0.mk (Kd.R_drew HO_5.out)
                  replace HO_13 := Aside0.mk (Kd.R_drew HO_13.out)
                  replace HB := Aside0.mk (below_drew1 HB.out)
                  have p247 : 0 ≤ (x14_4 : Int) := of_decide_eq_true (by first | (with_reducible assumption) | assumption)
                  have q247 : x14_4 < (ac.length : Int) := of_decide_eq_true (by first | (with_reducible assumption) | assumption)
                  obtain ⟨ad247, e247, hx247_0⟩ := Kd.at_int (Kd.R_reads' HO_13.out).2.2 x14_4 p247 q247
                  cases e247
                  replace p247 := eq_true p247
                  replace q247 := eq_true q247
                  have p249 : 0 ≤ (x14_4 : Int) := of_decide_eq_true (by first | (with_reducible assumption) | assumption)
                  have q249 : x14_4 < (ac.length : Int) := of_decide_eq_true (by first | (with_reducible assumption) | assumption)
                  obtain ⟨ad249, e249, hx249_0⟩ := Kd.at_int (Kd.R_reads' HO_13.out).2.2 x14_4 p249 q249
                  obtain rfl : ad247 = ad249 := (by injection e249)
                  replace p249 := eq_true p249
                  replace q249 := eq_true q249
                  refine start_ (n := 13) (S := fun w' => w'.cell? (ad247.add (x14_4).toNat) = some (.int .u32 (rd ac x14_4)) ∧ w'.cell? (ad247.add (x14_4).toNat) = some (.int .u32 (rd ac x14_4))) (ds := []) #[false, false, false, false, false, false, false, false, false, false, false, false, false] (by kernel_rfl) rfl rfl ⟨hx247_0, hx249_0⟩ (fun hHeld => ?_); refine with_tabW whirligiglaw01_AddrPlain.tab21 whirligiglaw01_AddrPlain.bits21 (fun HT_ HW_ => ?_)
                  generalize wr.drew = w55 at HO_5 HO_13 HB hx247_0 hx249_0 hHeld ⊢
                  refine pure_ (i := 0) (N := some 111) (v := ?_) (a' := ?_) #[true, false, false, false, false, false, false, false, false, false, false, false, false] rfl rfl (any_of HT_.out (by kernel_rfl)) (fun _ _ _ h => h) (Or.inl ⟨by rfl, ?_⟩) ?_ ?_
                  rotate_left
                  ·intro w'
                   go_simp
                   with_reducible rfl
                  rotate_left
                  ·simp only [Act.put, List.setIfInBounds_toArray, List.set_cons_zero, List.set_cons_succ, i64_w]
                   rfl
                  refine pure_ (i := 1) (N := some 112) (v := ?_) (a' := ?_) #[true, true, false, false, false, false, false, false, false, false, false, false, false] rfl rfl (any_of HT_.out (by kernel_rfl)) (fun _ _ _ h => h) (Or.inl ⟨by rfl, ?_⟩) ?_ ?_
                  rotate_left
                  ·intro w'
                   go_simp
                   with_reducible rfl
                  rotate_left
                  ·simp only [Act.put, List.setIfInBounds_toArray, List.set_cons_zero, List.set_cons_succ, i64_w]
                   rfl
                  refine pure_ (i := 2) (N := some 113) (v := ?_) (a' := ?_) #[true, true, true, false, false, false, false, false, false, false, false, false, false] rfl rfl (any_of HT_.out (by kernel_rfl)) (fun _ _ _ h => h) (Or.inl ⟨by rfl, ?_⟩) ?_ ?_
                  rotate_left
                  ·intro w'
                   go_simp
                   with_reducible rfl
                  rotate_left
                  ·simp only [Act.put, List.setIfInBounds_toArray, List.set_cons_zero, List.set_cons_succ, i64_w]
                   rfl
                  refine pure_ (i := 3) (N := some 114) (v := ?_) (a' := ?_) #[true, true, true, true, false, false, false, false, false, false, false, false, false] rfl rfl (any_of HT_.out (by kernel_rfl)) (fun _ _ _ h => h) (Or.inl ⟨by rfl, ?_⟩) ?_ ?_
                  rotate_left
                  ·intro w'
                   go_simp
                   with_reducible rfl
                  rotate_left
                  ·simp only [Act.put, List.setIfInBounds_toArray, List.set_cons_zero, List.set_cons_succ, i64_w]
                   rfl
                  refine pure_ (i := 6) (N := some 117) (v := ?_) (a' := ?_) #[true, true, true, true, false, false, true, false, false, false, false, false, false] rfl rfl (any_of HT_.out (by kernel_rfl)) (fun _ _ _ h => h) (Or.inl ⟨by rfl, ?_⟩) ?_ ?_
                  rotate_left
                  ·intro w'
                   go_simp
                   with_reducible rfl
                  rotate_left
                  ·simp only [Act.put, List.setIfInBounds_toArray, List.set_cons_zero, List.set_cons_succ, i64_w]
                   rfl
                  refine pure_ (i := 7) (N := some 118) (v := ?_) (a' := ?_) #[true, true, true, true, false, false, true, true, false, false, false, false, false] rfl rfl (any_of HT_.out (by kernel_rfl)) (fun _ _ _ h => h) (Or.inl ⟨by rfl, ?_⟩) ?_ ?_
                  rotate_left
                  ·intro w'
                   go_simp
                   with_reducible rfl
                  rotate_left
                  ·simp only [Act.put, List.setIfInBounds_toArray, List.set_cons_zero, List.set_cons_succ, i64_w]
                   rfl
                  refine pure_ (i := 8) (N := some 119) (v := ?_) (a' := ?_) #[true, true, true, true, false, false, true, true, true, false, false, false, false] rfl rfl (any_of HT_.out (by kernel_rfl)) (fun _ _ _ h => h) (Or.inl ⟨by rfl, ?_⟩) ?_ ?_
                  rotate_left
                  ·intro w'
                   go_simp
                   with_reducible rfl
                  rotate_left
                  ·simp only [Act.put, List.setIfInBounds_toArray, List.set_cons_zero, List.set_cons_succ, i64_w]
                   rfl
                  refine pure_ (i := 9) (N := some 120) (v := ?_) (a' := ?_) #[true, true, true, true, false, false, true, true, true, true, false, false, false] rfl rfl (any_of HT_.out (by kernel_rfl)) (fun _ _ _ h => h) (Or.inl ⟨by rfl, ?_⟩) ?_ ?_
                  rotate_left
                  ·intro w'
                   go_simp
                   with_reducible rfl
                  rotate_left
                  ·simp only [Act.put, List.setIfInBounds_toArray, List.set_cons_zero, List.set_cons_succ, i64_w]
                   rfl
                  refine take_ (i := 4) (N := some 115) (v := ?_) (a' := ?_) #[true, true, true, true, true, false, true, true, true, true, false, false, false] rfl rfl (take_ofW HT_.out HW_.out (by kernel_rfl)) (fun _ _ _ h => h) (Or.inl ⟨by rfl, ?_⟩) hHeld ?_ ?_
                  rotate_left
                  ·rintro w' ⟨s0, s1⟩
                   go_simp
                   with_reducible rfl
                  rotate_left
                  ·simp only [Act.put, List.setIfInBounds_toArray, List.set_cons_zero, List.set_cons_succ, i64_w]
                   rfl
                  refine take_ (i := 10) (N := some 121) (v := ?_) (a' := ?_) #[true, true, true, true, true, false, true, true, true, true, true, false, false] rfl rfl (take_ofW HT_.out HW_.out (by kernel_rfl)) (fun _ _ _ h => h) (Or.inl ⟨by rfl, ?_⟩) hHeld ?_ ?_
                  rotate_left
                  ·rintro w' ⟨s0, s1⟩
                   go_simp
                   with_reducible rfl
                  rotate_left
                  ·simp only [Act.put, List.setIfInBounds_toArray, List.set_cons_zero, List.set_cons_succ, i64_w]
                   rfl
                  refine one_ (i := 5) (N := some 116) #[true, true, true, true, true, true, true, true, true, true, true, false, false] rfl rfl (one_of HT_.out (by kernel_rfl)) (by decide) (fun K hK => ?_)
                  refine goes_ Try.func14 (by kernel_rfl) rfl #[.slice A0 l0.length c0, .int .u32 (rd ac x14_4)] (by rfl) rfl rfl (by (try simp only [List.map_toArray, List.map_cons, List.map_nil]); first | done | rfl) ?_
                  with_reducible refine (whirligigref01_In.calls k4 _ _ l0 (rd ac x14_4) t248 _ ?side1 ?side2 A51.out).mono ?_
                  (case side1 => repeat (first | exact (Kd.C_below ah.out HB.out) | (with_reducible refine Kd.C_alloc ?_ _) | (with_reducible refine Kd.C_drewN ?_ _) | (with_reducible refine Kd.C_drew ?_)))
                  (case side2 => exact ai.out)
                  rintro e w56 ⟨rfl, hb⟩
                  have HS0_ := (hb.cell (World.block_lt_of_cell? _ _ (hHeld.1))).trans (hHeld.1)
                  have HS1_ := (hb.cell (World.block_lt_of_cell? _ _ (hHeld.2))).trans (hHeld.2)
                  refine ⟨_, rfl, ?_⟩
                  replace HO_5 := Aside0.mk (Kd.R_below (by (with_reducible repeat (first | apply Kd.R_alloc | apply Kd.R_drewN | apply Kd.R_drew)); exact HO_5.out) hb)
                  replace HO_13 := Aside0.mk (Kd.R_below (by (with_reducible repeat (first | apply Kd.R_alloc | apply Kd.R_drewN | apply Kd.R_drew)); exact HO_13.out) hb)
                  replace HB := Aside0.mk (k01c6.z HB.out hb rfl rfl rfl rfl)
                  (try clear hb)
                  (try clear af)
                  (try clear hk)
                  (try clear hi)
                  refine hK.out _ _ ⟨HS0_, HS1_⟩ (fun hHeld => ?_)
                  clear hK K
                  refine norm_ (a' := ?_) ?_ ?_
                  rotate_left
                  ·show Act.put _ (some 116) _ = _
                   simp only [Act.put, List.setIfInBounds_toArray, List.set_cons_zero, List.set_cons_succ, i64_w]
                   rfl
                  refine one_ (i := 11) (N := some 122) #[true, true, true, true, true, true, true, true, true, true, true, true, false] rfl rfl (one_of HT_.out (by kernel_rfl)) (by decide) (fun K hK => ?_)
                  refine goes_ Try.func14 (by kernel_rfl) rfl #[.slice Ao23 t212.length co23, .int .u32 (rd ac x14_4)] (by rfl) rfl rfl (by (try simp only [List.map_toArray, List.map_cons, List.map_nil]); first | done | rfl) ?_
                  with_reducible refine (whirligigref01_In.calls k4 _ _ t212 (rd ac x14_4) t250 _ ?side1 ?side2 A52.out).mono ?_
                  (case side1 => repeat (first | exact (Kd.R_reads' HO_5.out).2.2 | (with_reducible refine Kd.C_alloc ?_ _) | (with_reducible refine Kd.C_drewN ?_ _) | (with_reducible refine Kd.C_drew ?_)))
                  (case side2 => exact (Kd.R_reads' HO_5.out).2.1)
                  rintro e w57 ⟨rfl, hb⟩
                  have HS0_ := (hb.cell (World.block_lt_of_cell? _ _ (hHeld.1))).trans (hHeld.1)
                  have HS1_ := (hb.cell (World.block_lt_of_cell? _ _ (hHeld.2))).trans (hHeld.2)
                  refine ⟨_, rfl, ?_⟩
                  replace HO_5 := Aside0.mk (Kd.R_below (by (with_reducible repeat (first | apply Kd.R_alloc | apply Kd.R_drewN | apply Kd.R_drew)); exact HO_5.out) hb)
                  replace HO_13 := Aside0.mk (Kd.R_below (by (with_reducible repeat (first | apply Kd.R_alloc | apply Kd.R_drewN | apply Kd.R_drew)); exact HO_13.out) hb)
                  replace HB := Aside0.mk (k01c6.z HB.out hb rfl rfl rfl rfl)
                  (try clear hb)
                  (try clear af)
                  (try clear hk)
                  (try clear hi)
                  refine hK.out _ _ ⟨HS0_, HS1_⟩ (fun hHeld => ?_)
                  clear hK K
                  refine norm_ (a' := ?_) ?_ ?_
                  rotate_left
                  ·show Act.put _ (some 122) _ = _
                   simp only [Act.put, List.setIfInBounds_toArray, List.set_cons_zero, List.set_cons_succ, i64_w]
                   rfl
                  refine pure_ (i := 12) (N := some 123) (v := ?_) (a' := ?_) #[true, true, true, true, true, true, true, true, true, true, true, true, true] rfl rfl (any_of HT_.out (by kernel_rfl)) (fun _ _ _ h => h) (Or.inl ⟨by rfl, ?_⟩) ?_ ?_
                  rotate_left
                  ·intro w'
                   go_simp
                   with_reducible rfl
                  rotate_left
                  ·simp only [Act.put, List.setIfInBounds_toArray, List.set_cons_zero, List.set_cons_succ, i64_w]
                   rfl
                  refine done_ (done_of HT_.out (by kernel_rfl)) ?_
                  try go_wp2
                  go_ret
                  exact ⟨by first | rfl | (simp [errW_none, errW_some] <;> rfl) | (simp [*, errW_none, errW_some] <;> rfl), by repeat (first | (with_reducible first | exact HB.out | apply below_alloc | apply pw_below_drewN | apply below_drew1) | exact HB.out)⟩
                 ·rw [if_neg aj] at H
                  have c53b0 : (t248 != t250) = false := by simpa using aj
                  (try (have c53b1 : decide (t248 = t250) = true := by simpa using aj))
                  (try (have c53b2 : (t248 == t250) = true := by simpa using aj))
                  clear aj
                  have H' := Aside0.mk H
                  clear H
                  obtain ⟨Ao58, co58, eo58⟩ := Kd.R_slice HO_13.out
                  subst eo58
                  try go_wp2
                  replace HO_5 := Aside0.mk (Kd.R_drew HO_5.out)
                  replace HO_13 := Aside0.mk (Kd.R_drew HO_13.out)
                  replace HB := Aside0.mk (below_drew1 HB.out)
                  have p247 : 0 ≤ (x14_4 : Int) := of_decide_eq_true (by first | (with_reducible assumption) | assumption)
                  have q247 : x14_4 < (ac.length : Int) := of_decide_eq_true (by first | (with_reducible assumption) | assumption)
                  obtain ⟨ad247, e247, hx247_0⟩ := Kd.at_int (Kd.R_reads' HO_13.out).2.2 x14_4 p247 q247
                  cases e247
                  replace p247 := eq_true p247
                  replace q247 := eq_true q247
                  have p249 : 0 ≤ (x14_4 : Int) := of_decide_eq_true (by first | (with_reducible assumption) | assumption)
                  have q249 : x14_4 < (ac.length : Int) := of_decide_eq_true (by first | (with_reducible assumption) | assumption)
                  obtain ⟨ad249, e249, hx249_0⟩ := Kd.at_int (Kd.R_reads' HO_13.out).2.2 x14_4 p249 q249
                  obtain rfl : ad247 = ad249 := (by injection e249)
                  replace p249 := eq_true p249
                  replace q249 := eq_true q249
                  refine start_ (n := 13) (S := fun w' => w'.cell? (ad247.add (x14_4).toNat) = some (.int .u32 (rd ac x14_4)) ∧ w'.cell? (ad247.add (x14_4).toNat) = some (.int .u32 (rd ac x14_4))) (ds := []) #[false, false, false, false, false, false, false, false, false, false, false, false, false] (by kernel_rfl) rfl rfl ⟨hx247_0, hx249_0⟩ (fun hHeld => ?_); refine with_tabW whirligiglaw01_AddrPlain.tab21 whirligiglaw01_AddrPlain.bits21 (fun HT_ HW_ => ?_)
                  generalize wr.drew = w59 at HO_5 HO_13 HB hx247_0 hx249_0 hHeld ⊢
                  refine pure_ (i := 0) (N := some 111) (v := ?_) (a' := ?_) #[true, false, false, false, false, false, false, false, false, false, false, false, false] rfl rfl (any_of HT_.out (by kernel_rfl)) (fun _ _ _ h => h) (Or.inl ⟨by rfl, ?_⟩) ?_ ?_
                  rotate_left
                  ·intro w'
                   go_simp
                   with_reducible rfl
                  rotate_left
                  ·simp only [Act.put, List.setIfInBounds_toArray, List.set_cons_zero, List.set_cons_succ, i64_w]
                   rfl
                  refine pure_ (i := 1) (N := some 112) (v := ?_) (a' := ?_) #[true, true, false, false, false, false, false, false, false, false, false, false, false] rfl rfl (any_of HT_.out (by kernel_rfl)) (fun _ _ _ h => h) (Or.inl ⟨by rfl, ?_⟩) ?_ ?_
                  rotate_left
                  ·intro w'
                   go_simp
                   with_reducible rfl
                  rotate_left
                  ·simp only [Act.put, List.setIfInBounds_toArray, List.set_cons_zero, List.set_cons_succ, i64_w]
                   rfl
                  refine pure_ (i := 2) (N := some 113) (v := ?_) (a' := ?_) #[true, true, true, false, false, false, false, false, false, false, false, false, false] rfl rfl (any_of HT_.out (by kernel_rfl)) (fun _ _ _ h => h) (Or.inl ⟨by rfl, ?_⟩) ?_ ?_
                  rotate_left
                  ·intro w'
                   go_simp
                   with_reducible rfl
                  rotate_left
                  ·simp only [Act.put, List.setIfInBounds_toArray, List.set_cons_zero, List.set_cons_succ, i64_w]
                   rfl
                  refine pure_ (i := 3) (N := some 114) (v := ?_) (a' := ?_) #[true, true, true, true, false, false, false, false, false, false, false, false, false] rfl rfl (any_of HT_.out (by kernel_rfl)) (fun _ _ _ h => h) (Or.inl ⟨by rfl, ?_⟩) ?_ ?_
                  rotate_left
                  ·intro w'
                   go_simp
                   with_reducible rfl
                  rotate_left
                  ·simp only [Act.put, List.setIfInBounds_toArray, List.set_cons_zero, List.set_cons_succ, i64_w]
                   rfl
                  refine pure_ (i := 6) (N := some 117) (v := ?_) (a' := ?_) #[true, true, true, true, false, false, true, false, false, false, false, false, false] rfl rfl (any_of HT_.out (by kernel_rfl)) (fun _ _ _ h => h) (Or.inl ⟨by rfl, ?_⟩) ?_ ?_
                  rotate_left
                  ·intro w'
                   go_simp
                   with_reducible rfl
                  rotate_left
                  ·simp only [Act.put, List.setIfInBounds_toArray, List.set_cons_zero, List.set_cons_succ, i64_w]
                   rfl
                  refine pure_ (i := 7) (N := some 118) (v := ?_) (a' := ?_) #[true, true, true, true, false, false, true, true, false, false, false, false, false] rfl rfl (any_of HT_.out (by kernel_rfl)) (fun _ _ _ h => h) (Or.inl ⟨by rfl, ?_⟩) ?_ ?_
                  rotate_left
                  ·intro w'
                   go_simp
                   with_reducible rfl
                  rotate_left
                  ·simp only [Act.put, List.setIfInBounds_toArray, List.set_cons_zero, List.set_cons_succ, i64_w]
                   rfl
                  refine pure_ (i := 8) (N := some 119) (v := ?_) (a' := ?_) #[true, true, true, true, false, false, true, true, true, false, false, false, false] rfl rfl (any_of HT_.out (by kernel_rfl)) (fun _ _ _ h => h) (Or.inl ⟨by rfl, ?_⟩) ?_ ?_
                  rotate_left
                  ·intro w'
                   go_simp
                   with_reducible rfl
                  rotate_left
                  ·simp only [Act.put, List.setIfInBounds_toArray, List.set_cons_zero, List.set_cons_succ, i64_w]
                   rfl
                  refine pure_ (i := 9) (N := some 120) (v := ?_) (a' := ?_) #[true, true, true, true, false, false, true, true, true, true, false, false, false] rfl rfl (any_of HT_.out (by kernel_rfl)) (fun _ _ _ h => h) (Or.inl ⟨by rfl, ?_⟩) ?_ ?_
                  rotate_left
                  ·intro w'
                   go_simp
                   with_reducible rfl
                  rotate_left
                  ·simp only [Act.put, List.setIfInBounds_toArray, List.set_cons_zero, List.set_cons_succ, i64_w]
                   rfl
                  refine take_ (i := 4) (N := some 115) (v := ?_) (a' := ?_) #[true, true, true, true, true, false, true, true, true, true, false, false, false] rfl rfl (take_ofW HT_.out HW_.out (by kernel_rfl)) (fun _ _ _ h => h) (Or.inl ⟨by rfl, ?_⟩) hHeld ?_ ?_
                  rotate_left
                  ·rintro w' ⟨s0, s1⟩
                   go_simp
                   with_reducible rfl
                  rotate_left
                  ·simp only [Act.put, List.setIfInBounds_toArray, List.set_cons_zero, List.set_cons_succ, i64_w]
                   rfl
                  refine take_ (i := 10) (N := some 121) (v := ?_) (a' := ?_) #[true, true, true, true, true, false, true, true, true, true, true, false, false] rfl rfl (take_ofW HT_.out HW_.out (by kernel_rfl)) (fun _ _ _ h => h) (Or.inl ⟨by rfl, ?_⟩) hHeld ?_ ?_
                  rotate_left
                  ·rintro w' ⟨s0, s1⟩
                   go_simp
                   with_reducible rfl
                  rotate_left
                  ·simp only [Act.put, List.setIfInBounds_toArray, List.set_cons_zero, List.set_cons_succ, i64_w]
                   rfl
                  refine one_ (i := 5) (N := some 116) #[true, true, true, true, true, true, true, true, true, true, true, false, false] rfl rfl (one_of HT_.out (by kernel_rfl)) (by decide) (fun K hK => ?_)
                  refine goes_ Try.func14 (by kernel_rfl) rfl #[.slice A0 l0.length c0, .int .u32 (rd ac x14_4)] (by rfl) rfl rfl (by (try simp only [List.map_toArray, List.map_cons, List.map_nil]); first | done | rfl) ?_
                  with_reducible refine (whirligigref01_In.calls k4 _ _ l0 (rd ac x14_4) t248 _ ?side1 ?side2 A51.out).mono ?_
                  (case side1 => repeat (first | exact (Kd.C_below ah.out HB.out) | (with_reducible refine Kd.C_alloc ?_ _) | (with_reducible refine Kd.C_drewN ?_ _) | (with_reducible refine Kd.C_drew ?_)))
                  (case side2 => exact ai.out)
                  rintro e w60 ⟨rfl, hb⟩
                  have HS0_ := (hb.cell (World.block_lt_of_cell? _ _ (hHeld.1))).trans (hHeld.1)
                  have HS1_ := (hb.cell (World.block_lt_of_cell? _ _ (hHeld.2))).trans (hHeld.2)
                  refine ⟨_, rfl, ?_⟩
                  replace HO_5 := Aside0.mk (Kd.R_below (by (with_reducible repeat (first | apply Kd.R_alloc | apply Kd.R_drewN | apply Kd.R_drew)); exact HO_5.out) hb)
                  replace HO_13 := Aside0.mk (Kd.R_below (by (with_reducible repeat (first | apply Kd.R_alloc | apply Kd.R_drewN | apply Kd.R_drew)); exact HO_13.out) hb)
                  replace HB := Aside0.mk (k01c6.z HB.out hb rfl rfl rfl rfl)
                  (try clear hb)
                  (try clear af)
                  (try clear hk)
                  (try clear hi)
                  refine hK.out _ _ ⟨HS0_, HS1_⟩ (fun hHeld => ?_)
                  clear hK K
                  refine norm_ (a' := ?_) ?_ ?_
                  rotate_left
                  ·show Act.put _ (some 116) _ = _
                   simp only [Act.put, List.setIfInBounds_toArray, List.set_cons_zero, List.set_cons_succ, i64_w]
                   rfl
                  refine one_ (i := 11) (N := some 122) #[true, true, true, true, true, true, true, true, true, true, true, true, false] rfl rfl (one_of HT_.out (by kernel_rfl)) (by decide) (fun K hK => ?_)
                  refine goes_ Try.func14 (by kernel_rfl) rfl #[.slice Ao23 t212.length co23, .int .u32 (rd ac x14_4)] (by rfl) rfl rfl (by (try simp only [List.map_toArray, List.map_cons, List.map_nil]); first | done | rfl) ?_
                  with_reducible refine (whirligigref01_In.calls k4 _ _ t212 (rd ac x14_4) t250 _ ?side1 ?side2 A52.out).mono ?_
                  (case side1 => repeat (first | exact (Kd.R_reads' HO_5.out).2.2 | (with_reducible refine Kd.C_alloc ?_ _) | (with_reducible refine Kd.C_drewN ?_ _) | (with_reducible refine Kd.C_drew ?_)))
                  (case side2 => exact (Kd.R_reads' HO_5.out).2.1)
                  rintro e w61 ⟨rfl, hb⟩
                  have HS0_ := (hb.cell (World.block_lt_of_cell? _ _ (hHeld.1))).trans (hHeld.1)
                  have HS1_ := (hb.cell (World.block_lt_of_cell? _ _ (hHeld.2))).trans (hHeld.2)
                  refine ⟨_, rfl, ?_⟩
                  replace HO_5 := Aside0.mk (Kd.R_below (by (with_reducible repeat (first | apply Kd.R_alloc | apply Kd.R_drewN | apply Kd.R_drew)); exact HO_5.out) hb)
                  replace HO_13 := Aside0.mk (Kd.R_below (by (with_reducible repeat (first | apply Kd.R_alloc | apply Kd.R_drewN | apply Kd.R_drew)); exact HO_13.out) hb)
                  replace HB := Aside0.mk (k01c6.z HB.out hb rfl rfl rfl rfl)
                  (try clear hb)
                  (try clear af)
                  (try clear hk)
                  (try clear hi)
                  refine hK.out _ _ ⟨HS0_, HS1_⟩ (fun hHeld => ?_)
                  clear hK K
                  refine norm_ (a' := ?_) ?_ ?_
                  rotate_left
                  ·show Act.put _ (some 122) _ = _
                   simp only [Act.put, List.setIfInBounds_toArray, List.set_cons_zero, List.set_cons_succ, i64_w]
                   rfl
                  refine pure_ (i := 12) (N := some 123) (v := ?_) (a' := ?_) #[true, true, true, true, true, true, true, true, true, true, true, true, true] rfl rfl (any_of HT_.out (by kernel_rfl)) (fun _ _ _ h => h) (Or.inl ⟨by rfl, ?_⟩) ?_ ?_
                  rotate_left
                  ·intro w'
                   go_simp
                   with_reducible rfl
                  rotate_left
                  ·simp only [Act.put, List.setIfInBounds_toArray, List.set_cons_zero, List.set_cons_succ, i64_w]
                   rfl
                  refine done_ (done_of HT_.out (by kernel_rfl)) ?_
                  try go_wp2
                  go_roundg k4
                  case measure => have := HJ2.out; have := HK2.out; have := HJ19.out; have := HK4.out; omega
                  case rel => exact ⟨(wrap64 (x14_4 + 1)), (by first | rfl | (simp; done) | (simp [*]; done)), H', ⟨by have := HJ2.out; have := HK2.out; have := HJ19.out; have := HK4.out; omega⟩, ⟨by (with_reducible repeat (first | apply Kd.R_alloc | apply Kd.R_drewN | apply Kd.R_drew)); exact HO_5.out⟩, ⟨by (with_reducible repeat (first | apply Kd.R_alloc | apply Kd.R_drewN | apply Kd.R_drew)); exact HO_13.out⟩, ⟨by repeat (first | (with_reducible first | exact HB.out | apply below_alloc | apply pw_below_drewN | apply below_drew1) | exact HB.out)⟩⟩
                ·rw [if_neg c50] at H
                 exact absurd H (by simp)
               ·rw [if_neg c49] at H
                have c49b0 : decide (x14_4 < (ac.length : Int)) = false := decide_eq_false c49
                clear c49
                replace H := Option.bind_eq_some_iff.mp H
                obtain ⟨t246, A620, H⟩ := H
                replace H : (some t246) = some r := H
                have A62 := Aside0.mk A620
                clear A620
                obtain rfl := Option.some.inj H
                obtain ⟨Ao63, co63, eo63⟩ := Kd.R_slice HO_13.out
                subst eo63
                go_wp2_with (first | ((with_reducible refine gate_callee (f := 8) rfl ?_); refine goesL_ (some 124) rfl rfl Try.func8 (by kernel_rfl) rfl #[] rfl (by (try simp only [List.map_toArray, List.map_cons, List.map_nil]); first | done | rfl) ?_; (with_reducible refine (whirligiglaw01_lives.calls k4  t246 _ A62.out).mono ?_); rintro e w64 ⟨rfl, hb⟩; refine ⟨_, rfl, ?_⟩; replace HO_5 := Aside0.mk (Kd.R_below (by (with_reducible repeat (first | apply Kd.R_alloc | apply Kd.R_drewN | apply Kd.R_drew)); exact HO_5.out) hb); replace HO_13 := Aside0.mk (Kd.R_below (by (with_reducible repeat (first | apply Kd.R_alloc | apply Kd.R_drewN | apply Kd.R_drew)); exact HO_13.out) hb); replace HB := Aside0.mk (k01c6.z HB.out hb rfl rfl rfl rfl); (try clear hb); (try clear af); (try clear hk); (try clear hi)))
                go_ret
                exact ⟨by first | rfl | (simp [errW_none, errW_some] <;> rfl) | (simp [*, errW_none, errW_some] <;> rfl), by repeat (first | (with_reducible first | exact HB.out | apply below_alloc | apply pw_below_drewN | apply below_drew1) | exact HB.out)⟩
            ·rw [if_neg c43] at H
             exact absurd H (by simp)
           ·rw [if_neg c42] at H
            exact absurd H (by simp)
    ·rw [if_neg ak] at H
     have c10b0 : (t216 == 0) = false := beq_eq_false_iff_ne.mpr ak
     have c10b1 : (t216 != 0) = true := bne_iff_ne.mpr ak
     by_cases ap : (t212.length : Int) = 0
     ·rw [if_pos ap] at H
      have c65b0 : ((t212.length : Int) == 0) = true := beq_iff_eq.mpr ap
      have c65b1 : ((t212.length : Int) != 0) = false := bne_eq_false_iff_eq.mpr ap
      clear ap
      replace H := Option.bind_eq_some_iff.mp H
      obtain ⟨t217, A660, H⟩ := H
      (try dsimp only at H)
      have A66 := Aside0.mk A660
      clear A660
      by_cases c67 : t213 = t217
      ·rw [if_pos c67] at H
       have c67b0 : (t213 == t217) = true := beq_iff_eq.mpr c67
       have c67b1 : (t213 != t217) = false := bne_eq_false_iff_eq.mpr c67
       clear c67
       replace H := Option.bind_eq_some_iff.mp H
       obtain ⟨t218, A680, H⟩ := H
       replace H : (some t218) = some r := H
       have A68 := Aside0.mk A680
       clear A680
       obtain rfl := Option.some.inj H
       go_wp2_with (first | ((with_reducible refine gate_callee (f := 9) rfl ?_); refine goesL_ (some 26) rfl rfl Try.func9 (by kernel_rfl) rfl #[.slice A0 l0.length c0] rfl (by (try simp only [List.map_toArray, List.map_cons, List.map_nil]); first | done | rfl) ?_; (with_reducible refine (addr_Plain.calls ag _ _ l0 t212 t213 _ ?side1 ?side2 A8.out).mono ?_); (case side1 => repeat (first | exact (Kd.C_below ah.out HB.out) | (with_reducible refine Kd.C_alloc ?_ _) | (with_reducible refine Kd.C_drewN ?_ _) | (with_reducible refine Kd.C_drew ?_))); (case side2 => exact ai.out); rintro e w69 ⟨v214, rfl, ho0, hb⟩; refine ⟨_, rfl, ?_⟩; have aa := Aside0.mk (Kd.R_lower ho0 (below_size (by repeat (first | (with_reducible first | exact HB.out | apply below_alloc | apply pw_below_drewN | apply below_drew1) | exact HB.out)))); replace HB := Aside0.mk (k01c6.z HB.out hb rfl rfl rfl rfl); (try clear hb); (try clear af); (try clear hk); (try clear hi); (try clear ho0)) | ((with_reducible refine gate_callee (f := 10) rfl ?_); refine goesL_ (some 30) rfl rfl Try.func10 (by kernel_rfl) rfl #[.slice A0 l0.length c0] rfl (by (try simp only [List.map_toArray, List.map_cons, List.map_nil]); first | done | rfl) ?_; (with_reducible refine (whirligigref01_Why.calls ag _ _ l0 t216 _ ?side1 ?side2 A9.out).mono ?_); (case side1 => repeat (first | exact (Kd.C_below ah.out HB.out) | (with_reducible refine Kd.C_alloc ?_ _) | (with_reducible refine Kd.C_drewN ?_ _) | (with_reducible refine Kd.C_drew ?_))); (case side2 => exact ai.out); rintro e w70 ⟨rfl, hb⟩; refine ⟨_, rfl, ?_⟩; replace aa := Aside0.mk (Kd.R_below (by (with_reducible repeat (first | apply Kd.R_alloc | apply Kd.R_drewN | apply Kd.R_drew)); exact aa.out) hb); replace HB := Aside0.mk (k01c6.z HB.out hb rfl rfl rfl rfl); (try clear hb); (try clear af); (try clear hk); (try clear hi); obtain ⟨Ao71, co71, eo71⟩ := Kd.R_slice aa.out; subst eo71) | (go_at_call 10; (with_reducible refine (whirligigref01_Why.calls ag _ _ l0 t217 _ ?side1 ?side2 A66.out).mono ?_); (case side1 => repeat (first | exact (Kd.C_below ah.out HB.out) | (with_reducible refine Kd.C_alloc ?_ _) | (with_reducible refine Kd.C_drewN ?_ _) | (with_reducible refine Kd.C_drew ?_))); (case side2 => exact ai.out); rintro e w72 ⟨rfl, hb⟩; replace aa := Aside0.mk (Kd.R_below (by (with_reducible repeat (first | apply Kd.R_alloc | apply Kd.R_drewN | apply Kd.R_drew)); exact aa.out) hb); replace HB := Aside0.mk (k01c6.z HB.out hb rfl rfl rfl rfl); (try clear hb); (try clear af); (try clear hk); (try clear hi)) | (go_at_call 8; (with_reducible refine (whirligiglaw01_lives.calls ag  t218 _ A68.out).mono ?_); rintro e w73 ⟨rfl, hb⟩; replace aa := Aside0.mk (Kd.R_below (by (with_reducible repeat (first | apply Kd.R_alloc | apply Kd.R_drewN | apply Kd.R_drew)); exact aa.out) hb); replace HB := Aside0.mk (k01c6.z HB.out hb rfl rfl rfl rfl); (try clear hb); (try clear af); (try clear hk); (try clear hi)))
       go_ret
       exact ⟨by first | rfl | (simp [errW_none, errW_some] <;> rfl) | (simp [*, errW_none, errW_some] <;> rfl), by repeat (first | (with_reducible first | exact HB.out | apply below_alloc | apply pw_below_drewN | apply below_drew1) | exact HB.out)⟩
      ·rw [if_neg c67] at H
       have c67b0 : (t213 == t217) = false := beq_eq_false_iff_ne.mpr c67
       have c67b1 : (t213 != t217) = true := bne_iff_ne.mpr c67
       obtain rfl := Option.some.inj H
       go_wp2_with (first | ((with_reducible refine gate_callee (f := 9) rfl ?_); refine goesL_ (some 26) rfl rfl Try.func9 (by kernel_rfl) rfl #[.slice A0 l0.length c0] rfl (by (try simp only [List.map_toArray, List.map_cons, List.map_nil]); first | done | rfl) ?_; (with_reducible refine (addr_Plain.calls ag _ _ l0 t212 t213 _ ?side1 ?side2 A8.out).mono ?_); (case side1 => repeat (first | exact (Kd.C_below ah.out HB.out) | (with_reducible refine Kd.C_alloc ?_ _) | (with_reducible refine Kd.C_drewN ?_ _) | (with_reducible refine Kd.C_drew ?_))); (case side2 => exact ai.out); rintro e w74 ⟨v214, rfl, ho0, hb⟩; refine ⟨_, rfl, ?_⟩; have aa := Aside0.mk (Kd.R_lower ho0 (below_size (by repeat (first | (with_reducible first | exact HB.out | apply below_alloc | apply pw_below_drewN | apply below_drew1) | exact HB.out)))); replace HB := Aside0.mk (k01c6.z HB.out hb rfl rfl rfl rfl); (try clear hb); (try clear af); (try clear hk); (try clear hi); (try clear ho0)) | ((with_reducible refine gate_callee (f := 10) rfl ?_); refine goesL_ (some 30) rfl rfl Try.func10 (by kernel_rfl) rfl #[.slice A0 l0.length c0] rfl (by (try simp only [List.map_toArray, List.map_cons, List.map_nil]); first | done | rfl) ?_; (with_reducible refine (whirligigref01_Why.calls ag _ _ l0 t216 _ ?side1 ?side2 A9.out).mono ?_); (case side1 => repeat (first | exact (Kd.C_below ah.out HB.out) | (with_reducible refine Kd.C_alloc ?_ _) | (with_reducible refine Kd.C_drewN ?_ _) | (with_reducible refine Kd.C_drew ?_))); (case side2 => exact ai.out); rintro e w75 ⟨rfl, hb⟩; refine ⟨_, rfl, ?_⟩; replace aa := Aside0.mk (Kd.R_below (by (with_reducible repeat (first | apply Kd.R_alloc | apply Kd.R_drewN | apply Kd.R_drew)); exact aa.out) hb); replace HB := Aside0.mk (k01c6.z HB.out hb rfl rfl rfl rfl); (try clear hb); (try clear af); (try clear hk); (try clear hi); obtain ⟨Ao76, co76, eo76⟩ := Kd.R_slice aa.out; subst eo76) | (go_at_call 10; (with_reducible refine (whirligigref01_Why.calls ag _ _ l0 t217 _ ?side1 ?side2 A66.out).mono ?_); (case side1 => repeat (first | exact (Kd.C_below ah.out HB.out) | (with_reducible refine Kd.C_alloc ?_ _) | (with_reducible refine Kd.C_drewN ?_ _) | (with_reducible refine Kd.C_drew ?_))); (case side2 => exact ai.out); rintro e w77 ⟨rfl, hb⟩; replace aa := Aside0.mk (Kd.R_below (by (with_reducible repeat (first | apply Kd.R_alloc | apply Kd.R_drewN | apply Kd.R_drew)); exact aa.out) hb); replace HB := Aside0.mk (k01c6.z HB.out hb rfl rfl rfl rfl); (try clear hb); (try clear af); (try clear hk); (try clear hi)))
       go_ret
       exact ⟨by first | rfl | (simp [errW_none, errW_some] <;> rfl) | (simp [*, errW_none, errW_some] <;> rfl), by repeat (first | (with_reducible first | exact HB.out | apply below_alloc | apply pw_below_drewN | apply below_drew1) | exact HB.out)⟩
     ·rw [if_neg ap] at H
      have c65b0 : ((t212.length : Int) == 0) = false := beq_eq_false_iff_ne.mpr ap
      have c65b1 : ((t212.length : Int) != 0) = true := bne_iff_ne.mpr ap
      have c65b2 : ¬ (t212 = []) := fun h_ => ap (by rw [h_]; rfl)
      obtain rfl := Option.some.inj H
      go_wp2_with (first | ((with_reducible refine gate_callee (f := 9) rfl ?_); refine goesL_ (some 26) rfl rfl Try.func9 (by kernel_rfl) rfl #[.slice A0 l0.length c0] rfl (by (try simp only [List.map_toArray, List.map_cons, List.map_nil]); first | done | rfl) ?_; (with_reducible refine (addr_Plain.calls ag _ _ l0 t212 t213 _ ?side1 ?side2 A8.out).mono ?_); (case side1 => repeat (first | exact (Kd.C_below ah.out HB.out) | (with_reducible refine Kd.C_alloc ?_ _) | (with_reducible refine Kd.C_drewN ?_ _) | (with_reducible refine Kd.C_drew ?_))); (case side2 => exact ai.out); rintro e w78 ⟨v214, rfl, ho0, hb⟩; refine ⟨_, rfl, ?_⟩; have aa := Aside0.mk (Kd.R_lower ho0 (below_size (by repeat (first | (with_reducible first | exact HB.out | apply below_alloc | apply pw_below_drewN | apply below_drew1) | exact HB.out)))); replace HB := Aside0.mk (k01c6.z HB.out hb rfl rfl rfl rfl); (try clear hb); (try clear af); (try clear hk); (try clear hi); (try clear ho0)) | ((with_reducible refine gate_callee (f := 10) rfl ?_); refine goesL_ (some 30) rfl rfl Try.func10 (by kernel_rfl) rfl #[.slice A0 l0.length c0] rfl (by (try simp only [List.map_toArray, List.map_cons, List.map_nil]); first | done | rfl) ?_; (with_reducible refine (whirligigref01_Why.calls ag _ _ l0 t216 _ ?side1 ?side2 A9.out).mono ?_); (case side1 => repeat (first | exact (Kd.C_below ah.out HB.out) | (with_reducible refine Kd.C_alloc ?_ _) | (with_reducible refine Kd.C_drewN ?_ _) | (with_reducible refine Kd.C_drew ?_))); (case side2 => exact ai.out); rintro e w79 ⟨rfl, hb⟩; refine ⟨_, rfl, ?_⟩; replace aa := Aside0.mk (Kd.R_below (by (with_reducible repeat (first | apply Kd.R_alloc | apply Kd.R_drewN | apply Kd.R_drew)); exact aa.out) hb); replace HB := Aside0.mk (k01c6.z HB.out hb rfl rfl rfl rfl); (try clear hb); (try clear af); (try clear hk); (try clear hi); obtain ⟨Ao80, co80, eo80⟩ := Kd.R_slice aa.out; subst eo80))
      go_ret
      exact ⟨by first | rfl | (simp [errW_none, errW_some] <;> rfl) | (simp [*, errW_none, errW_some] <;> rfl), by repeat (first | (with_reducible first | exact HB.out | apply below_alloc | apply pw_below_drewN | apply below_drew1) | exact HB.out)⟩

end Go.Proofs.Ytckffheolnmcnaa.P

end
section
set_option linter.unusedVariables false
set_option linter.unusedSimpArgs false
namespace Go.Proofs.Ytckffheolnmcnaa
open Go.ChangeShapes Go.WideShapes Go.Proofs.YtckffheolnmcnaaW.PrintWords Go.Proofs.YtckffheolnmcnaaW.PrintLast Go.Proofs.YtckffheolnmcnaaW.PrintMore

/-- the ints of a kind -/
def okI (k : IntKind) (n : Int) : Prop := (Lit.int k n).wf = true
def okL {α : Type} (B : Nat) (ok : α → Prop) (l : List α) : Prop := l.length * B ≤ 140737488351232 ∧ ∀ x, x ∈ l → ok x
theorem okI_u32 {n : Int} (h : okI .u32 n) : 0 ≤ n ∧ n ≤ 4294967295 := by
  unfold okI Lit.wf at h; simp [IntKind.min, IntKind.max, IntKind.bits, IntKind.signed] at h; omega
/-- A reading of a type. -/
structure RV (P : Program) (t : TypeId) (α : Type) (d : Kd α) where
  ok : α → Prop
  sz : P.cellsOf t = d.sz
  opens : ∀ {H : Type} {enc : TypeId × Value → H} {w : World} {base : Nat} {spare : Nat → Bool} {held : Bool} {fuel : Nat} {cs : List Value} {x : DataW H × List MemPlace},
    DataW.trod enc P w base spare held fuel t cs = some x → (x.1.weights P t).all (· ≤ reachBytes) = true → ∃ a, d.K w a cs ∧ ok a
/-- A reading of a stretch of fields. -/
structure RF (P : Program) (fs : List Field) (off : Nat) (α : Type) where
  K : World → α → List Value → Prop
  ok : α → Prop
  opens : ∀ {H : Type} {enc : TypeId × Value → H} {w : World} {base : Nat} {spare : Nat → Bool} {held : Bool} {fuel : Nat} {cs : List Value} {ds : List (DataW H × List MemPlace)}, off ≤ cs.length →
    (∀ f, f ∈ fs → f.offset + P.cellsOf f.type ≤ cs.length) → (∀ (i : Nat) (f : Field), fs[i]? = some f → ∃ y, ds[i]? = some y ∧ DataW.trod enc P w base spare held fuel f.type ((cs.drop f.offset).take (P.cellsOf f.type)) = some y) →
    (DataW.weightsEach P (fs.map (·.type)) (ds.map (·.1))).all (· ≤ reachBytes) = true →
    (fs = [] → cs.length = off) → (∀ f, fs.getLast? = some f → f.offset + P.cellsOf f.type = cs.length) → ∃ a, K w a (cs.drop off) ∧ ok a

section
variable {P : Program} {t e : TypeId} {α β : Type} {d : Kd α}
def rInt (k : IntKind) (ht : P.underlying t = some (.int k)) (hc : P.cellsOf t = 1) : RV P t Int (Kd.int k) where
  ok := okI k
  sz := hc
  opens := fun h _ => by obtain ⟨n, h1, _, h3⟩ := DataW.trod_int ht h; exact ⟨n, h1, h3⟩
theorem RV.list_of_lt {n : Nat} {p : Nat → α → Prop} (h : ∀ i, i < n → ∃ x, p i x) : ∃ l : List α, l.length = n ∧ ∀ i x, l[i]? = some x → p i x := by
  rcases Nat.eq_zero_or_pos n with rfl | hn
  · exact ⟨[], rfl, fun i x hx => by simp at hx⟩
  · haveI : Inhabited α := ⟨Classical.choose (h 0 hn)⟩
    obtain ⟨f, hf⟩ := Go.Deep.choose_lt h
    refine ⟨(List.range n).map f, by simp, fun i x hx => ?_⟩
    have hi : i < n := by have := (List.getElem?_eq_some_iff.1 hx).1; simpa using this
    have e : ((List.range n).map f)[i]? = some (f i) := by simp [hi]
    rw [e] at hx
    cases hx
    exact hf i hi
theorem add_add_ (a : Addr) (p q : Nat) : (a.add p).add q = a.add (p + q) := by
  unfold Addr.add
  by_cases hp : p = 0
  · subst hp; simp
  · by_cases hq : q = 0
    · subst hq; simp [hp]
    · have : p + q ≠ 0 := by omega
      simp [hp, hq, this, Nat.add_assoc]
theorem weights_elem {H : Type} {P : Program} {e : TypeId} {l : List (DataW H)} {B : Nat} (h : (DataW.weightsAll P e l).all (· ≤ B) = true) {x : DataW H} (hx : x ∈ l) : (x.weights P e).all (· ≤ B) = true := by
  induction l with
  | nil => simp at hx
  | cons y l ih =>
    rw [DataW.weightsAll, List.all_append, Bool.and_eq_true] at h
    rcases List.mem_cons.1 hx with rfl | hx
    · exact h.1
    · exact ih h.2 hx
def rSlice {B : Nat} (ht : P.underlying t = some (.slice e)) (hc : P.cellsOf t = 1) (hB : P.bytesOf e = B) (hp : 0 < d.sz) (hB1 : 1 ≤ B) (V : RV P e α d) : RV P t (List α) (Kd.slice e d) where
  ok := okL B V.ok
  sz := hc
  opens := fun {H enc w base spare held fuel cs x} h hw => by
    rcases Go.Deep.open_slice ht h with ⟨h0, _⟩ | ⟨a, len, cap, m, f, D, Pl, h1, hb, hl, hm, hmm, hx, hcc⟩
    · exact ⟨[], ⟨none, 0, h0, Nat.le_refl _, ⟨rfl, by simp, fun h => absurd h (by simp)⟩⟩, by simp [okL]⟩
    · have hlm : len ≤ m := by rw [hmm]; split <;> omega
      have hw' := hw
      rw [hx] at hw'
      simp only [DataW.weights, ht, List.all_cons, List.length_map, List.length_range, Bool.and_eq_true, List.all_append] at hw'
      obtain ⟨w1, w2, _⟩ := hw'
      have w1' : (len + (m - len)) * B ≤ 140737488351232 := by rw [← hB]; exact of_decide_eq_true w1
      have one : ∀ i, i < len → ∃ x, ∃ cs', cs'.length = d.sz ∧ (∀ j u, cs'[j]? = some u → w.cell? (a.add (i * d.sz + j)) = some u) ∧ d.K w x cs' ∧ V.ok x := by
        intro i hi
        obtain ⟨cs', k1, k2⟩ := hcc i (by omega)
        obtain ⟨_, hlen, hcell⟩ := World.cells?_some k1
        have hwi := weights_elem w2 (List.mem_map.2 ⟨i, List.mem_range.2 hi, rfl⟩)
        obtain ⟨y, hy, hok⟩ := V.opens k2 hwi
        rw [V.sz] at hlen hcell
        refine ⟨y, cs', hlen, fun j u hj => ?_, hy, hok⟩
        have hj' : j < d.sz := by have := (List.getElem?_eq_some_iff.1 hj).1; omega
        have := hcell j hj'
        rw [add_add_, hj] at this
        exact this
      obtain ⟨l, hl', hall⟩ := RV.list_of_lt one
      have hlb : len ≤ 9223372036854775807 := by
        have : len * 1 ≤ (len + (m - len)) * B := Nat.mul_le_mul (by omega) hB1
        omega
      refine ⟨l, ⟨some a, cap, by rw [h1, hl'], by omega, ⟨rfl, by omega, fun _ => ⟨a, rfl, fun j p hj => ?_⟩⟩⟩, ?_, ?_⟩
      · obtain ⟨cs', q1, q2, q3, _⟩ := hall j p hj
        exact ⟨cs', q1, q3, q2⟩
      · rw [hl']
        exact Nat.le_trans (Nat.mul_le_mul_right _ (by omega)) w1'
      · intro x hx
        obtain ⟨i, hi⟩ := List.getElem?_of_mem hx
        obtain ⟨_, _, _, _, q⟩ := hall i x hi
        exact q
def fNil (off : Nat) : RF P [] off Unit where
  K := fun _ _ cs => cs = []
  ok := fun _ => True
  opens := fun _ _ _ _ h0 _ => ⟨(), by have := h0 rfl; simp [← this], trivial⟩
def fCons (f : Field) {fs : List Field} {off n : Nat} (ho : f.offset = off) (hn : P.cellsOf f.type = n) {d : Kd α} (V : RV P f.type α d) (F : RF P fs (off + n) β) : RF P (f :: fs) off (α × β) where
  K := fun w x cs => ∃ c c', cs = c ++ c' ∧ d.K w x.1 c ∧ F.K w x.2 c'
  ok := fun x => V.ok x.1 ∧ F.ok x.2
  opens := fun {H enc w base spare held fuel cs ds} hoff hle hy hw h0 hlast => by
    obtain ⟨y, hy1, hy0⟩ := hy 0 f rfl
    obtain ⟨ds, rfl⟩ : ∃ l, ds = y :: l := by
      cases ds with
      | nil => simp at hy1
      | cons z l => simp at hy1; subst hy1; exact ⟨l, rfl⟩
    rw [List.map_cons, List.map_cons, DataW.weightsEach, List.all_append, Bool.and_eq_true] at hw
    obtain ⟨a, ha, hka⟩ := V.opens hy0 hw.1
    have hl0 := hle f (by simp)
    rw [ho, hn] at hl0
    obtain ⟨b, hb, hkb⟩ := F.opens (cs := cs) (ds := ds) hl0 (fun g hg => hle g (by simp [hg])) (fun i g hg => hy (i + 1) g hg) hw.2 (fun h => by subst h; have := hlast f (by simp); rw [ho, hn] at this; exact this.symm)
      (fun g hg => hlast g (by cases fs with | nil => simp at hg | cons z zs => rw [List.getLast?_cons_cons]; exact hg))
    refine ⟨(a, b), ⟨(cs.drop off).take n, cs.drop (off + n), ?_, ?_, hb⟩, hka, hkb⟩
    · rw [← List.drop_drop, List.take_append_drop]
    · rw [ho, hn] at ha; exact ha
/-- the struct's cells end with its last field's -/
def fitsB (P : Program) (t : TypeId) (fs : List Field) : Bool := fs.all (fun f => decide (f.offset + P.cellsOf f.type ≤ P.cellsOf t)) && (match fs.getLast? with | some f => f.offset + P.cellsOf f.type == P.cellsOf t | none => P.cellsOf t == 0)
def rStruct {fs : Array Field} (ht : P.underlying t = some (.struct fs)) (hf : fitsB P t fs.toList = true) {d : Kd β} (hc : P.cellsOf t = d.sz) (F : RF P fs.toList 0 α) (f : α → β) (hK : ∀ w x cs, F.K w x cs → d.K w (f x) cs) (ok : β → Prop) (hok : ∀ x, F.ok x → ok (f x)) : RV P t β d where
  ok := ok
  sz := hc
  opens := fun {H enc w base spare held fuel cs x} h hw => by
    obtain ⟨xs, n, _, rfl, hl, hxl, hx⟩ := DataW.trod_struct ht h
    unfold fitsB at hf
    rw [Bool.and_eq_true] at hf
    obtain ⟨f1, f2⟩ := hf
    simp only [DataW.weights, ht] at hw
    obtain ⟨a, ha, hka⟩ := F.opens (enc := enc) (w := w) (base := base) (spare := spare) (held := held) (fuel := n) (cs := cs) (ds := xs) (Nat.zero_le _)
      (fun f hf => by rw [hl]; exact of_decide_eq_true (List.all_eq_true.1 f1 f hf))
      (fun i f hi => by
        have hi' : fs[i]? = some f := by rw [← Array.getElem?_toList]; exact hi
        have hlt : i < fs.size := by
          have := (List.getElem?_eq_some_iff.1 hi).1
          simpa using this
        have z := hx i f hi'
        rw [z]
        exact ⟨_, List.getElem?_eq_getElem (by omega), List.getElem?_eq_getElem (by omega)⟩)
      hw
      (fun h0 => by rw [h0] at f2; simp at f2; rw [hl]; exact f2)
      (fun f hf => by rw [hf] at f2; simp at f2; rw [hl]; exact f2)
    exact ⟨f a, hK _ _ _ (by simpa using ha), hok a hka⟩
end
end Go.Proofs.Ytckffheolnmcnaa

end
section
namespace Go.Proofs.Ytckffheolnmcnaa.P
open Go.Proofs.YtckffheolnmcnaaW.PrintWords Go.Proofs.YtckffheolnmcnaaW.PrintLast Go.Proofs.YtckffheolnmcnaaW.PrintMore
set_option linter.unusedVariables false
def r23 : RV Try.prog 23 Int (Kd.int .u32) := rInt .u32 Try.underlying23 (by kernel_rfl)
def r3 : RV Try.prog 3 Int (Kd.int .i64) := rInt .i64 Try.underlying3 (by kernel_rfl)
def ok30 (x : S30) : Prop := (okI .u32) x.f0 ∧ (okI .i64) x.f1
def r30 : RV Try.prog 30 S30 k30 := rStruct Try.underlying30 (by kernel_rfl) (by kernel_rfl) (fCons (n := 1) _ rfl (by kernel_rfl) r23 (fCons (n := 1) _ rfl (by kernel_rfl) r3 (fNil _))) (fun x => ⟨x.1, x.2.1⟩) (by rintro w x cs ⟨c0, _, rfl, h0, c1, _, rfl, h1, rfl⟩; exact ⟨c0, _, rfl, h0, (by rw [List.append_nil]; exact h1)⟩) ok30 (fun x h => ⟨h.1, h.2.1⟩)
def r22 : RV Try.prog 22 (List (S30)) (Kd.slice 30 k30) := rSlice (B := 16) Try.underlying22 (by kernel_rfl) (by kernel_rfl) (by decide) (by decide) r30
end Go.Proofs.Ytckffheolnmcnaa.P

end
section
set_option linter.unusedVariables false
set_option linter.unusedSimpArgs false
namespace Go.Proofs.Ytckffheolnmcnaa.P
open Go.RowKit Go.Proofs.YtckffheolnmcnaaW.PrintWords Go.Proofs.YtckffheolnmcnaaW.PrintLast Go.Proofs.YtckffheolnmcnaaW.PrintMore

/-- how many addresses a prefix of so many bits has -/
def un (b : Int) : Int := 2 ^ (32 - b).toNat
theorem un_pos (b : Int) : 0 < un b := by
  unfold un
  have := Nat.two_pow_pos (32 - b).toNat
  have h2 : (0 : Int) < (((2 : Nat) ^ (32 - b).toNat : Nat) : Int) := by exact_mod_cast this
  simpa using h2
theorem un_succ (b : Int) (h : b < 32) : un b = 2 * un (b + 1) := by
  unfold un
  rw [show (32 - b).toNat = (32 - (b + 1)).toNat + 1 by omega, Int.pow_succ]; omega
/-- an address -/
def isA (a : Int) : Prop := 0 ≤ a ∧ a ≤ 4294967295
/-- may a prefix be? -/
def mayB (a b : Int) : Bool := decide (0 ≤ b) && (decide (b ≤ 32) && decide (a % un b = 0))
theorem mayB_iff (a b : Int) : mayB a b = true ↔ 0 ≤ b ∧ b ≤ 32 ∧ a % un b = 0 := by
  unfold mayB; simp
theorem mask_is (b : Int) (h0 : 0 ≤ b) (h1 : b ≤ 32) : addr_mask.f b = some (4294967296 - un b) := by
  unfold addr_mask.f
  by_cases h : b = 0
  · subst h; rfl
  · rw [if_neg h, wrap64_in _ (by omega) (by omega), if_pos (by omega)]
    have := shl_all (32 - b).toNat (by omega)
    rw [show (((32 - b).toNat : Nat) : Int) = 32 - b by omega] at this
    rw [this]; rfl
theorem may_is (a b : Int) (ha : isA a) : addr_May.f a b = some (mayB a b) := by
  unfold addr_May.f mayB
  by_cases h0 : 0 ≤ b
  · rw [if_pos h0]
    by_cases h1 : b ≤ 32
    · rw [if_pos h1, mask_is b h0 h1, Option.bind_some]
      have := andNot_mask a (32 - b).toNat ha.1 (by have := ha.2; omega) (by omega)
      unfold un
      rw [this]
      simp [h0, h1]
      rfl
    · rw [if_neg h1]; simp [h0, h1]
  · rw [if_neg h0]; simp [h0]
/-- the bit of an address at a place -/
def bitI (a i : Int) : Int := a / un (i + 1) % 2
theorem bit_ev : ∀ (d : Nat) (a i : Int), 0 ≤ a → a ≤ 4294967295 → 0 ≤ i → i ≤ 31 → 31 - i = d → Evt (fun k => whirligigref01_Bit.l0 k a i) (bitI a i) := by
  intro d
  induction d with
  | zero =>
    intro a i h0 h1 h2 h3 hd
    obtain rfl : i = 31 := by omega
    refine Evt.step ?_
    simp only [whirligigref01_Bit.l0]
    refine Evt.ite_neg (by omega) (Evt.of fun k => ?_)
    unfold bitI un
    rw [Int.tmod_eq_emod_of_nonneg h0]
    simp
  | succ d ih =>
    intro a i h0 h1 h2 h3 hd
    refine Evt.step ?_
    simp only [whirligigref01_Bit.l0]
    refine Evt.ite_pos (by omega) ?_
    rw [Int.tdiv_eq_ediv_of_nonneg h0, wrap64_in _ (by omega) (by omega), Int.emod_eq_of_lt (by omega) (by omega)]
    have := ih (a / 2) (i + 1) (by omega) (by omega) (by omega) (by omega) (by omega)
    have e : bitI (a / 2) (i + 1) = bitI a i := by
      unfold bitI
      rw [un_succ (i + 1) (by omega), Int.ediv_ediv_of_nonneg (by decide)]
    rw [e] at this
    exact this
theorem refBit_ev (a i : Int) (ha : isA a) (h2 : 0 ≤ i) (h3 : i ≤ 31) : Evt (fun k => whirligigref01_Bit.f k a i) (bitI a i) :=
  bit_ev (31 - i).toNat a i ha.1 ha.2 h2 h3 (by omega)
theorem mod_un (a i : Int) (h : 0 ≤ a) (h1 : i ≤ 31) : a % un i = a % un (i + 1) + un (i + 1) * bitI a i := by
  have hp := un_pos (i + 1)
  rw [un_succ i (by omega)]
  unfold bitI
  have e1 := Int.emod_add_mul_ediv a (un (i + 1))
  have e2 := Int.emod_add_mul_ediv a (2 * un (i + 1))
  have e3 := Int.emod_add_mul_ediv (a / un (i + 1)) 2
  have e4 : a / un (i + 1) / 2 = a / (2 * un (i + 1)) := by rw [Int.ediv_ediv_of_nonneg (Int.le_of_lt hp), Int.mul_comm]
  rw [e4] at e3
  generalize a / (2 * un (i + 1)) = q at *
  generalize a / un (i + 1) % 2 = s at *
  generalize a / un (i + 1) = p at *
  generalize un (i + 1) = u at *
  have e5 : u * p = u * s + 2 * u * q := by
    rw [← e3, Int.mul_add, ← Int.mul_assoc, Int.mul_comm u 2]
  omega
theorem refMayLoop_ev : ∀ (d : Nat) (a i b : Int), isA a → 0 ≤ i → i ≤ 32 → 32 - i = d → Evt (fun k => whirligigref01_May.l0 k i a b) (decide (a % un i = 0)) := by
  intro d
  induction d with
  | zero =>
    intro a i b ha h0 h1 hd
    obtain rfl : i = 32 := by omega
    refine Evt.step ?_
    simp only [whirligigref01_May.l0]
    refine Evt.ite_neg (by omega) (Evt.of fun k => ?_)
    have : a % un 32 = 0 := by show a % 1 = 0; omega
    rw [this]; rfl
  | succ d ih =>
    intro a i b ha h0 h1 hd
    refine Evt.step ?_
    simp only [whirligigref01_May.l0]
    refine Evt.ite_pos (by omega) ?_
    refine Evt.bind (refBit_ev a i ha h0 (by omega)) ?_
    have hm := mod_un a i ha.1 (by omega)
    have hp := un_pos (i + 1)
    have hr : 0 ≤ a % un (i + 1) := Int.emod_nonneg _ (by omega)
    by_cases hb : bitI a i = 0
    · refine Evt.ite_pos hb ?_
      rw [wrap64_in _ (by omega) (by omega)]
      have := ih a (i + 1) b ha (by omega) (by omega) (by omega)
      rw [hb, Int.mul_zero, Int.add_zero] at hm
      rw [hm]; exact this
    · refine Evt.ite_neg hb (Evt.of fun k => ?_)
      have hb1 : bitI a i = 1 := by unfold bitI at *; omega
      rw [hb1, Int.mul_one] at hm
      rw [decide_eq_false (by omega)]
theorem refMay_ev (a b : Int) (ha : isA a) : Evt (fun k => whirligigref01_May.f k a b) (mayB a b) := by
  unfold whirligigref01_May.f mayB
  by_cases h0 : b < 0
  · refine Evt.ite_pos h0 (Evt.step ?_)
    simp only [whirligigref01_May.j0]
    refine Evt.ite_pos (by simp) (Evt.of fun k => ?_)
    rw [decide_eq_false (by omega : ¬ 0 ≤ b)]; rfl
  · refine Evt.ite_neg h0 (Evt.step ?_)
    simp only [whirligigref01_May.j0]
    by_cases h1 : b > 32
    · refine Evt.ite_pos (decide_eq_true h1) (Evt.of fun k => ?_)
      rw [decide_eq_false (by omega : ¬ b ≤ 32)]; simp
    · refine Evt.ite_neg (by simpa using h1) ?_
      have := refMayLoop_ev (32 - b).toNat a b b ha (by omega) (by omega) (by omega)
      rw [decide_eq_true (by omega : 0 ≤ b), decide_eq_true (by omega : b ≤ 32)]
      exact this
/-- does a prefix have an address? -/
def inB (a b x : Int) : Bool := decide (x - x % un b = a)
def hasB (a b x : Int) : Bool := mayB a b && inB a b x
theorem has_is (a b x : Int) (ha : isA a) (hx : isA x) : addr_Has.f a b x = some (hasB a b x) := by
  unfold addr_Has.f hasB
  rw [may_is a b ha, Option.bind_some]
  by_cases h : mayB a b = true
  · obtain ⟨h0, h1, h2⟩ := (mayB_iff a b).1 h
    rw [if_pos h, mask_is b h0 h1, Option.bind_some]
    have := and_mask x (32 - b).toNat hx.1 (by have := hx.2; omega) (by omega)
    unfold un
    rw [this, h]
    unfold inB un
    simp only [Bool.true_and]
    rfl
  · rw [if_neg h]
    simp at h
    rw [h]; rfl
theorem refHasLoop_ev : ∀ (d : Nat) (a b x i : Int), isA a → isA x → 0 ≤ i → i ≤ b → b ≤ 32 → b - i = d → a / un i = x / un i →
    Evt (fun k => whirligigref01_Has.l0 k x i a b) (decide (a / un b = x / un b)) := by
  intro d
  induction d with
  | zero =>
    intro a b x i ha hx h0 h1 h2 hd he
    obtain rfl : i = b := by omega
    refine Evt.step ?_
    simp only [whirligigref01_Has.l0]
    refine Evt.ite_neg (by omega) (Evt.of fun k => ?_)
    rw [decide_eq_true he]
  | succ d ih =>
    intro a b x i ha hx h0 h1 h2 hd he
    refine Evt.step ?_
    simp only [whirligigref01_Has.l0]
    refine Evt.ite_pos (by omega) ?_
    refine Evt.bind (refBit_ev a i ha h0 (by omega)) ?_
    refine Evt.bind (refBit_ev x i hx h0 (by omega)) ?_
    have hp := un_pos (i + 1)
    have ea : a / un (i + 1) / 2 = a / un i := by rw [Int.ediv_ediv_of_nonneg (Int.le_of_lt hp), Int.mul_comm, ← un_succ i (by omega)]
    have ex : x / un (i + 1) / 2 = x / un i := by rw [Int.ediv_ediv_of_nonneg (Int.le_of_lt hp), Int.mul_comm, ← un_succ i (by omega)]
    by_cases hb : bitI a i = bitI x i
    · refine Evt.ite_pos hb ?_
      rw [wrap64_in _ (by omega) (by omega)]
      refine ih a b x (i + 1) ha hx (by omega) (by omega) h2 (by omega) ?_
      unfold bitI at hb
      omega
    · refine Evt.ite_neg hb (Evt.of fun k => ?_)
      rw [decide_eq_false]
      intro hn
      apply hb
      have key : ∀ j : Nat, i + 1 + j ≤ 32 → a / un (i + 1 + j) = x / un (i + 1 + j) → a / un (i + 1) = x / un (i + 1) := by
        intro j
        induction j with
        | zero => intro _ h; simpa using h
        | succ j ihj =>
          intro hj h
          apply ihj (by omega)
          have hp2 := un_pos (i + 1 + j + 1)
          have e : ∀ z : Int, z / un (i + 1 + j) = z / un (i + 1 + j + 1) / 2 := fun z => by
            rw [Int.ediv_ediv_of_nonneg (Int.le_of_lt hp2), Int.mul_comm, ← un_succ (i + 1 + j) (by omega)]
          rw [e a, e x]
          have h' : a / un (i + 1 + j + 1) = x / un (i + 1 + j + 1) := by
            rw [show i + 1 + (j : Int) + 1 = i + 1 + ((j + 1 : Nat) : Int) by omega]; exact h
          rw [h']
      have := key (b - i - 1).toNat (by omega) (by rw [show i + 1 + (((b - i - 1).toNat : Nat) : Int) = b by omega]; exact hn)
      unfold bitI
      rw [this]
theorem div_in (a b x : Int) (hm : a % un b = 0) : (a / un b = x / un b) ↔ x - x % un b = a := by
  have hp := un_pos b
  have e1 := Int.emod_add_mul_ediv a (un b)
  have e2 := Int.emod_add_mul_ediv x (un b)
  rw [hm] at e1
  constructor
  · intro h; rw [← h] at e2; omega
  · intro h
    have : un b * (x / un b) = un b * (a / un b) := by omega
    exact (Int.eq_of_mul_eq_mul_left (by omega) this).symm
theorem refHas_ev (a b x : Int) (ha : isA a) (hx : isA x) (hm : mayB a b = true) : Evt (fun k => whirligigref01_Has.f k a b x) (inB a b x) := by
  obtain ⟨h0, h1, h2⟩ := (mayB_iff a b).1 hm
  have := refHasLoop_ev b.toNat a b x 0 ha hx (by omega) h0 h1 (by omega) (by
    have : un 0 = 4294967296 := rfl
    rw [this]
    have := ha.1; have := ha.2; have := hx.1; have := hx.2
    omega)
  unfold inB
  rw [show decide (x - x % un b = a) = decide (a / un b = x / un b) from decide_eq_decide.2 (div_in a b x h2).symm]
  exact this
/-- does a prefix contain another one? -/
def contB (a b c d : Int) : Bool := mayB c d && (decide (b ≤ d) && hasB a b c)
theorem contains_is (a b c d : Int) (ha : isA a) (hc : isA c) : addr_Contains.f a b c d = some (contB a b c d) := by
  unfold addr_Contains.f contB
  rw [may_is c d hc, Option.bind_some]
  by_cases h : mayB c d = true
  · rw [if_pos h, h]
    by_cases h1 : b ≤ d
    · rw [if_pos h1, has_is a b c ha hc, decide_eq_true h1]; rfl
    · rw [if_neg h1, decide_eq_false h1]; rfl
  · rw [if_neg h]; simp at h; rw [h]; rfl
theorem refContains_ev (a b c d : Int) (ha : isA a) (hc : isA c) : Evt (fun k => whirligigref01_Contains.f k a b c d) (contB a b c d) := by
  unfold whirligigref01_Contains.f contB
  refine Evt.bind (refMay_ev a b ha) ?_
  by_cases h : mayB a b = true
  · refine Evt.ite_pos h (Evt.bind (refMay_ev c d hc) ?_)
    by_cases h1 : mayB c d = true
    · refine Evt.ite_pos h1 ?_
      by_cases h2 : b ≤ d
      · refine Evt.ite_pos h2 (Evt.bind (refHas_ev a b c ha hc h) (Evt.of fun k => ?_))
        rw [h1, decide_eq_true h2]; unfold hasB; rw [h]; rfl
      · refine Evt.ite_neg h2 (Evt.of fun k => ?_)
        rw [h1, decide_eq_false h2]; rfl
    · refine Evt.ite_neg h1 (Evt.of fun k => ?_)
      simp at h1; rw [h1]; rfl
  · refine Evt.ite_neg h (Evt.of fun k => ?_)
    simp at h
    unfold hasB; rw [h]; simp
end Go.Proofs.Ytckffheolnmcnaa.P

end
section
namespace Go.Proofs.Ytckffheolnmcnaa.P
open Go.RowKit Go.Proofs.YtckffheolnmcnaaW.PrintWords Go.Proofs.YtckffheolnmcnaaW.PrintLast Go.Proofs.YtckffheolnmcnaaW.PrintMore
attribute [local go_sem] max2_int min2_int max_two min_two max_three min_three max_four min_four   -- for this text's walks alone
set_option linter.unusedVariables false
set_option linter.unusedSimpArgs false

def addr_Halves.f (a0_0 : Int) (a0_1 : Int) : Option (Int × Int × Int × Int × Int) := (addr_May.f a0_0 a0_1).bind fun t300 => (if t300 = true then (if a0_1 = 32 then (some (0, 0, 0, 0, 5)) else ((addr_halves.f a0_0 a0_1).bind fun bt301 => (some (bt301.1, bt301.2.1, bt301.2.2.1, bt301.2.2.2, 0)))) else (some (0, 0, 0, 0, 1)))
end Go.Proofs.Ytckffheolnmcnaa.P

end
section
set_option linter.unusedVariables false
set_option linter.unusedSimpArgs false
namespace Go.Proofs.Ytckffheolnmcnaa.P
open Go.RowKit Go.Proofs.YtckffheolnmcnaaW.PrintWords Go.Proofs.YtckffheolnmcnaaW.PrintLast Go.Proofs.YtckffheolnmcnaaW.PrintMore

theorem sort_two : sortP [(⟨167772160, 9⟩ : S30), ⟨176160768, 9⟩] = [(⟨167772160, 9⟩ : S30), ⟨176160768, 9⟩] := by
  unfold sortP
  apply List.mergeSort_of_pairwise
  decide
theorem lives_ev : Evt (fun k => whirligiglaw01_lives.f k) true := by
  refine Evt.of_mono (K := 12) (fun k => whirligiglaw01_lives.mono k) ?_
  unfold whirligiglaw01_lives.f addr_Plain.f addr_plain.f
  rw [sort_two]
  decide +kernel
/-- the beginning of a prefix of v bits -/
def flo (a v : Int) : Int := a - a % un v
theorem flo_zero (a : Int) (ha : isA a) : flo a 0 = 0 := by
  have : un 0 = 4294967296 := rfl
  unfold flo; rw [this]; have := ha.1; have := ha.2; omega
theorem flo_isA (a v : Int) (ha : isA a) : isA (flo a v) := by
  have hp := un_pos v
  have h1 := Int.emod_nonneg a (show un v ≠ 0 by omega)
  have h2 := Int.emod_add_mul_ediv a (un v)
  have h3 : 0 ≤ un v * (a / un v) := Int.mul_nonneg (by omega) (Int.ediv_nonneg ha.1 (by omega))
  have := ha.1; have := ha.2
  unfold flo; constructor <;> omega
theorem flo_mod (a v : Int) : flo a v % un v = 0 := by
  have hp := un_pos v
  have h2 := Int.emod_add_mul_ediv a (un v)
  have : flo a v = un v * (a / un v) := by unfold flo; omega
  rw [this]; exact Int.mul_emod_right _ _
theorem flo_may (a v : Int) (h0 : 0 ≤ v) (h1 : v ≤ 32) : mayB (flo a v) v = true := (mayB_iff _ _).2 ⟨h0, h1, flo_mod a v⟩
theorem flo_self (a v : Int) (h : a % un v = 0) : flo a v = a := by unfold flo; omega
theorem mod_half (a v : Int) (h : v ≤ 32) : (a % un (v - 1)) % un v = a % un v := by
  rw [show un (v - 1) = 2 * un v by have := un_succ (v - 1) (by omega); rwa [show v - 1 + 1 = v by omega] at this]
  exact Int.emod_emod_of_dvd _ (Int.dvd_mul_left _ _)
/-- the halves of what is one bit shorter -/
theorem flo_down (a v : Int) (h : v ≤ 32) : flo (flo a v) (v - 1) = flo a (v - 1) ∧ (flo a v = flo a (v - 1) ∨ flo a v = flo a (v - 1) + un v) := by
  have e := mod_half a v h
  have hu : un (v - 1) = 2 * un v := by have := un_succ (v - 1) (by omega); rwa [show v - 1 + 1 = v by omega] at this
  have hp := un_pos v
  have h1 := Int.emod_nonneg a (show un (v - 1) ≠ 0 by omega)
  have h2 := Int.emod_lt_of_pos a (show 0 < un (v - 1) by omega)
  have hm := flo_mod a (v - 1)
  have hd : ∀ t, 0 ≤ t → t < un (v - 1) → (flo a (v - 1) + t) % un (v - 1) = t := by
    intro t t0 t1
    rw [Int.add_emod, hm, Int.zero_add, Int.emod_emod_of_dvd _ (Int.dvd_refl _), Int.emod_eq_of_lt t0 t1]
  unfold flo at *
  by_cases hc : a % un (v - 1) < un v
  · rw [Int.emod_eq_of_lt h1 hc] at e
    have e1 : a - a % un v = a - a % un (v - 1) := by rw [e]
    have := hd 0 (by omega) (by omega)
    rw [Int.add_zero] at this
    rw [e1, this]
    exact ⟨by omega, .inl rfl⟩
  · have e2 : (a % un (v - 1)) % un v = a % un (v - 1) - un v := by
      rw [← Int.sub_emod_right, Int.emod_eq_of_lt (by omega) (by omega)]
    rw [e2] at e
    have e1 : a - a % un v = a - a % un (v - 1) + un v := by rw [← e]; omega
    have := hd (un v) (by omega) (by omega)
    rw [e1, this]
    exact ⟨by omega, .inr rfl⟩
/-- what stands above two -/
def isTop (a b c d u : Int) : Prop := 0 ≤ u ∧ u ≤ b ∧ u ≤ d ∧ flo a u = flo c u ∧ ∀ v, u < v → v ≤ b → v ≤ d → flo a v ≠ flo c v
theorem isTop.symm {a b c d u : Int} (h : isTop a b c d u) : isTop c d a b u := ⟨h.1, h.2.2.1, h.2.1, h.2.2.2.1.symm, fun v h1 h2 h3 e => h.2.2.2.2 v h1 h3 h2 e.symm⟩
theorem isTop.one {a b c d u v : Int} (h : isTop a b c d u) (g : isTop a b c d v) : u = v := by
  obtain ⟨h1, h2, h3, h4, h5⟩ := h
  obtain ⟨g1, g2, g3, g4, g5⟩ := g
  rcases Int.lt_trichotomy u v with e | e | e
  · exact absurd g4 (h5 v e g2 g3)
  · exact e
  · exact absurd h4 (g5 u e h2 h3)
theorem top_le (a b : Int) (ha : isA a) (hb : mayB a b = true) : a + un b ≤ 4294967296 := by
  obtain ⟨b0, b1, b2⟩ := (mayB_iff a b).1 hb
  have h6 : (4294967296 : Int) = un b * 2 ^ b.toNat := by
    unfold un
    rw [← Int.pow_add, show (32 - b).toNat + b.toNat = 32 by omega]; rfl
  have h7 : un b ∣ 4294967296 - a := Int.dvd_sub ⟨_, h6⟩ (Int.dvd_of_emod_eq_zero b2)
  have := Int.le_of_dvd (by have := ha.2; omega) h7
  omega
theorem shl_one' (n : Nat) (hn : n ≤ 31) : shl .u32 1 n = 2 ^ n := by
  have : ∀ n : Fin 32, shl .u32 1 n.val = 2 ^ n.val := by decide +kernel
  exact this ⟨n, by omega⟩
theorem halves_is (a b : Int) (ha : isA a) (hb : mayB a b = true) (h : b ≠ 32) : addr_Halves.f a b = some (a, b + 1, a + un (b + 1), b + 1, 0) := by
  obtain ⟨b0, b1, b2⟩ := (mayB_iff a b).1 hb
  unfold addr_Halves.f
  rw [may_is a b ha, Option.bind_some, if_pos hb, if_neg h]
  unfold addr_halves.f
  rw [wrap64_in (31 - b) (by omega) (by omega), wrap64_in (b + 1) (by omega) (by omega), if_pos (by omega)]
  have e1 := shl_one' (31 - b).toNat (by omega)
  rw [show (((31 - b).toNat : Nat) : Int) = 31 - b by omega] at e1
  have e2 : (2 : Int) ^ (31 - b).toNat = un (b + 1) := by unfold un; rw [show (32 - (b + 1)).toNat = (31 - b).toNat by omega]
  have hu := un_succ b (by omega)
  have hp := un_pos (b + 1)
  have e3 := or_join a (un (b + 1)) (32 - b).toNat (by omega) ha.1 b2 (by have := ha.2; omega) (by omega) (by show un (b + 1) < un b; omega)
  rw [e1, e2, e3]; rfl
end Go.Proofs.Ytckffheolnmcnaa.P

end
section
set_option linter.unusedVariables false
set_option linter.unusedSimpArgs false
namespace Go.Proofs.Ytckffheolnmcnaa.P
open Go.RowKit Go.Proofs.YtckffheolnmcnaaW.PrintWords Go.Proofs.YtckffheolnmcnaaW.PrintLast Go.Proofs.YtckffheolnmcnaaW.PrintMore

abbrev Pf := S30
def okP (p : Pf) : Prop := isA p.f0 ∧ mayB p.f0 p.f1 = true
def hiP (p : Pf) : Int := p.f0 + un p.f1
theorem okP.bits {p : Pf} (h : okP p) : 0 ≤ p.f1 ∧ p.f1 ≤ 32 ∧ p.f0 % un p.f1 = 0 := (mayB_iff _ _).1 h.2
theorem un_mul (b v : Int) (hv : v ≤ b) (hb : b ≤ 32) : un v = un b * 2 ^ (b - v).toNat := by
  unfold un
  rw [← Int.pow_add, show (32 - b).toNat + (b - v).toNat = (32 - v).toNat by omega]
theorem un_dvd (b v : Int) (hv : v ≤ b) (hb : b ≤ 32) : un b ∣ un v := ⟨_, un_mul b v hv hb⟩
theorem in_iff (a b z : Int) (hm : a % un b = 0) : inB a b z = true ↔ a ≤ z ∧ z < a + un b := by
  unfold inB
  rw [decide_eq_true_eq]
  have hp := un_pos b
  have h1 := Int.emod_nonneg z (show un b ≠ 0 by omega)
  have h2 := Int.emod_lt_of_pos z hp
  constructor
  · intro h; omega
  · rintro ⟨h3, h4⟩
    have : z % un b = z - a := by
      rw [show z = a + (z - a) by omega, Int.add_emod, hm, Int.zero_add, Int.emod_emod_of_dvd _ (Int.dvd_refl _), Int.emod_eq_of_lt (by omega) (by omega)]
      omega
    omega
/-- does a prefix hold an address? -/
def hasP (p : Pf) (z : Int) : Prop := p.f0 ≤ z ∧ z < hiP p
theorem hasB_iff {p : Pf} (h : okP p) (z : Int) : hasB p.f0 p.f1 z = true ↔ hasP p z := by
  unfold hasB
  rw [h.2, Bool.true_and]
  exact in_iff _ _ _ h.bits.2.2
theorem cont_iff {p q : Pf} (hp : okP p) (hq : okP q) : contB p.f0 p.f1 q.f0 q.f1 = true ↔ p.f1 ≤ q.f1 ∧ hasP p q.f0 := by
  unfold contB
  rw [hq.2, Bool.true_and, Bool.and_eq_true, decide_eq_true_eq, hasB_iff hp]
theorem nest {p q : Pf} (hp : okP p) (hq : okP q) (hb : p.f1 ≤ q.f1) (h : hasP p q.f0) : hiP q ≤ hiP p := by
  obtain ⟨p0, p1, p2⟩ := hp.bits
  obtain ⟨q0, q1, q2⟩ := hq.bits
  have hu := un_dvd q.f1 p.f1 hb q1
  have h1 : un q.f1 ∣ hiP p - q.f0 := by
    unfold hiP
    exact Int.dvd_sub (Int.dvd_add (Int.dvd_trans hu (Int.dvd_of_emod_eq_zero p2)) hu) (Int.dvd_of_emod_eq_zero q2)
  have := Int.le_of_dvd (by have := h.2; omega) h1
  unfold hiP at *; omega
theorem nest2 {p q : Pf} (hp : okP p) (hq : okP q) (hb : q.f1 ≤ p.f1) (h : hasP p q.f0) : q.f0 = p.f0 := by
  obtain ⟨p0, p1, p2⟩ := hp.bits
  obtain ⟨q0, q1, q2⟩ := hq.bits
  have hu := un_dvd p.f1 q.f1 hb p1
  have h1 : un p.f1 ∣ q.f0 - p.f0 := Int.dvd_sub (Int.dvd_trans hu (Int.dvd_of_emod_eq_zero q2)) (Int.dvd_of_emod_eq_zero p2)
  have h2 := Int.emod_eq_zero_of_dvd h1
  rw [Int.emod_eq_of_lt (by have := h.1; omega) (by have := h.2; unfold hiP at this; omega)] at h2
  omega
theorem hi_pos (p : Pf) : p.f0 < hiP p := by unfold hiP; have := un_pos p.f1; omega
/-- halves of one -/
def sisB (x y : Pf) : Bool := decide (x.f1 ≠ 0) && (decide (x.f1 = y.f1) && (decide (flo x.f0 (x.f1 - 1) = x.f0) && decide (y.f0 = x.f0 + un x.f1)))
theorem sisB_iff (x y : Pf) : sisB x y = true ↔ x.f1 ≠ 0 ∧ x.f1 = y.f1 ∧ flo x.f0 (x.f1 - 1) = x.f0 ∧ y.f0 = x.f0 + un x.f1 := by
  unfold sisB; simp
theorem sister_ev {x y : Pf} (hx : okP x) (hy : okP y) : Evt (fun k => addr_sister.f k x.f0 x.f1 y.f0 y.f1) (sisB x y) := by
  obtain ⟨b0, b1, b2⟩ := hx.bits
  unfold addr_sister.f sisB
  by_cases h : x.f1 = 0
  · refine Evt.ite_pos h (Evt.step ?_)
    simp only [addr_sister.j0]
    refine Evt.ite_pos trivial (Evt.of fun k => ?_)
    simp [h]
  · refine Evt.ite_neg h (Evt.step ?_)
    simp only [addr_sister.j0]
    by_cases h2 : x.f1 = y.f1
    · refine Evt.ite_neg (by simp [h2]) ?_
      rw [wrap64_in _ (by omega) (by omega)]
      refine Evt.bindc (mask_is (x.f1 - 1) (by omega) (by omega)) ?_
      have := and_mask x.f0 (32 - (x.f1 - 1)).toNat hx.1.1 (by have := hx.1.2; omega) (by omega)
      have e : bits .and .u32 x.f0 (4294967296 - un (x.f1 - 1)) = flo x.f0 (x.f1 - 1) := this
      rw [e]
      have hf := flo_isA x.f0 (x.f1 - 1) hx.1
      have hm := flo_may x.f0 (x.f1 - 1) (by omega) (by omega)
      have eh : addr_halves.f (flo x.f0 (x.f1 - 1)) (x.f1 - 1) = some (flo x.f0 (x.f1 - 1), x.f1, flo x.f0 (x.f1 - 1) + un x.f1, x.f1) := by
        have := halves_is _ _ hf hm (by omega)
        unfold addr_Halves.f at this
        rw [may_is _ _ hf, Option.bind_some, if_pos hm, if_neg (by omega)] at this
        obtain ⟨t, ht, h3⟩ := Option.bind_eq_some_iff.mp this
        rw [ht]
        simp only [Option.some.injEq, Prod.mk.injEq] at h3
        obtain ⟨e1, e2, e3, e4, _⟩ := h3
        obtain ⟨t1, t2, t3, t4⟩ := t
        dsimp only at e1 e2 e3 e4
        subst e1; subst e2; subst e3; subst e4
        rw [show x.f1 - 1 + 1 = x.f1 by omega]
      refine Evt.bindc eh ?_
      by_cases h3 : flo x.f0 (x.f1 - 1) = x.f0
      · refine Evt.ite_pos (by simp [h3]) (Evt.of fun k => ?_)
        have e1 : (x.f1 == y.f1) = true := by simp [h2]
        show some ((flo x.f0 (x.f1 - 1) + un x.f1 == y.f0) && (x.f1 == y.f1)) = _
        rw [decide_eq_true h, decide_eq_true h2, decide_eq_true h3, h3, e1, Bool.and_true]
        simp only [Bool.true_and]
        by_cases q : y.f0 = x.f0 + un x.f1
        · rw [q]; simp
        · have q2 : ¬ x.f0 + un x.f1 = y.f0 := fun e => q e.symm
          simp [q, q2]
      · refine Evt.ite_neg (by simp [h3]) (Evt.of fun k => ?_)
        rw [decide_eq_false h3]; simp
    · refine Evt.ite_pos (by simp [h2]) (Evt.of fun k => ?_)
      simp [h2]
/-- rows of prefixes one behind the other, the last one ahead; no two halves of one side by side -/
def Stk : List Pf → Prop
  | [] => True
  | [y] => okP y
  | y :: x :: r => okP y ∧ hiP x ≤ y.f0 ∧ sisB x y = false ∧ Stk (x :: r)
def cov (l : List Pf) (z : Int) : Prop := ∃ p ∈ l, hasP p z
theorem Stk.tail {y : Pf} {r : List Pf} (h : Stk (y :: r)) : Stk r := by
  cases r with
  | nil => exact trivial
  | cons x r => exact h.2.2.2
theorem Stk.head {y : Pf} {r : List Pf} (h : Stk (y :: r)) : okP y := by
  cases r with
  | nil => exact h
  | cons x r => exact h.1
theorem up_ev : ∀ (r : List Pf) (n : Nat) (p : Pf), r.length ≤ n → okP p → Stk r → (∀ x r', r = x :: r' → hiP x ≤ p.f0) →
    ∃ y z, Evt (fun k => addr_plain.up k n (p :: r)) (y :: z) ∧ Stk (y :: z) ∧ (∀ a, cov (y :: z) a ↔ cov (p :: r) a) ∧ y.f1 ≤ p.f1 ∧ hasP y p.f0 ∧ (y :: z).length ≤ (p :: r).length := by
  intro r
  induction r with
  | nil =>
    intro n p _ hp _ _
    refine ⟨p, [], Evt.of fun k => ?_, hp, fun a => Iff.rfl, by simp, ⟨by simp, hi_pos p⟩, Nat.le_refl _⟩
    cases n <;> rfl
  | cons x r ih =>
    intro n p hn hp hr hx
    obtain ⟨n, rfl⟩ : ∃ m, n = m + 1 := ⟨n - 1, by simp at hn; omega⟩
    have hox := hr.head
    by_cases hs : sisB x p = true
    · obtain ⟨s1, s2, s3, s4⟩ := (sisB_iff x p).1 hs
      obtain ⟨b0, b1, b2⟩ := hox.bits
      have hu := un_succ (x.f1 - 1) (by omega)
      rw [show x.f1 - 1 + 1 = x.f1 by omega] at hu
      have hw : wrap64 (x.f1 - 1) = x.f1 - 1 := wrap64_in _ (by omega) (by omega)
      have hm : okP ⟨x.f0, x.f1 - 1⟩ := by
        refine ⟨hox.1, (mayB_iff _ _).2 ⟨by show 0 ≤ x.f1 - 1; omega, by show x.f1 - 1 ≤ 32; omega, ?_⟩⟩
        show x.f0 % un (x.f1 - 1) = 0
        rw [← s3]; exact flo_mod _ _
      have hpos := un_pos x.f1
      have hhi : hiP ⟨x.f0, x.f1 - 1⟩ = hiP p := by unfold hiP; show x.f0 + un (x.f1 - 1) = p.f0 + un p.f1; rw [← s2]; omega
      obtain ⟨y, z, h1, h2, h3, h4, h5, h8⟩ := ih n ⟨x.f0, x.f1 - 1⟩ (by simp at hn; omega) hm hr.tail (fun x' r' e => by
        subst e; exact hr.2.1)
      refine ⟨y, z, ?_, h2, fun a => ?_, by have : y.f1 ≤ x.f1 - 1 := h4; omega, ?_, by simp at h8 ⊢; omega⟩
      · refine Evt.bind (f := fun k b => if b = true then addr_plain.up k n (⟨x.f0, wrap64 (x.f1 - 1)⟩ :: r) else some (p :: x :: r)) (sister_ev hox hp) ?_
        refine Evt.ite_pos hs ?_
        rw [hw]; exact h1
      · rw [h3 a]
        have hc : hasP ⟨x.f0, x.f1 - 1⟩ a ↔ hasP p a ∨ hasP x a := by
          unfold hasP
          rw [hhi]
          have e1 : hiP x = p.f0 := by unfold hiP; omega
          rw [e1]
          have := hi_pos p
          have := hi_pos x
          rw [e1] at this
          show x.f0 ≤ a ∧ a < hiP p ↔ _
          omega
        unfold cov
        simp only [List.mem_cons, exists_eq_or_imp]
        rw [hc, or_assoc]
      · have hy := h2.head
        have h6 := nest hy hm h4 h5
        have h7 : y.f0 ≤ x.f0 := h5.1
        have := hi_pos p
        rw [hhi] at h6
        exact ⟨by omega, by omega⟩
    · have hs' : sisB x p = false := by simpa using hs
      refine ⟨p, x :: r, ?_, ⟨hp, hx x r rfl, hs', hr⟩, fun a => Iff.rfl, by simp, ⟨by simp, hi_pos p⟩, Nat.le_refl _⟩
      refine Evt.bind (f := fun k b => if b = true then addr_plain.up k n (⟨x.f0, wrap64 (x.f1 - 1)⟩ :: r) else some (p :: x :: r)) (sister_ev hox hp) ?_
      exact Evt.ite_neg hs (Evt.of fun k => rfl)
/-- ahead, or the same -/
def leP (p q : Pf) : Prop := p.f0 < q.f0 ∨ p.f0 = q.f0 ∧ p.f1 ≤ q.f1
theorem go_ev : ∀ (l : List Pf) (s : List Pf), Stk s → (∀ p ∈ l, okP p) → l.Pairwise leP → (∀ y r, s = y :: r → ∃ q, okP q ∧ y.f1 ≤ q.f1 ∧ hasP y q.f0 ∧ ∀ p ∈ l, leP q p) →
    ∃ z, Evt (fun k => addr_plain.go k s l) z ∧ Stk z ∧ (∀ a, cov z a ↔ cov s a ∨ cov l a) ∧ z.length ≤ s.length + l.length := by
  intro l
  induction l with
  | nil =>
    intro s hs _ _ _
    refine ⟨s, Evt.of fun k => by cases s <;> rfl, hs, fun a => ?_, by simp⟩
    unfold cov; simp
  | cons p l ih =>
    intro s hs hl hp hq
    have hop := hl p (by simp)
    have hl' : ∀ p ∈ l, okP p := fun q h => hl q (by simp [h])
    obtain ⟨hp1, hp2⟩ := List.pairwise_cons.1 hp
    have hcons : ∀ a, cov (p :: l) a ↔ hasP p a ∨ cov l a := fun a => by unfold cov; simp
    cases s with
    | nil =>
      obtain ⟨z, h1, h2, h3, h9⟩ := ih [p] hop hl' hp2 (fun y r e => by
        obtain ⟨rfl, _⟩ := List.cons.inj e
        exact ⟨p, hop, Int.le_refl _, ⟨Int.le_refl _, hi_pos p⟩, hp1⟩)
      refine ⟨z, h1, h2, fun a => ?_, by simp at h9 ⊢; omega⟩
      rw [h3 a, hcons]; unfold cov; simp
    | cons y s =>
      have hoy := hs.head
      obtain ⟨q, hoq, hyb, hyq, hqle⟩ := hq y s rfl
      have hqp := hqle p (by simp)
      by_cases hc : contB y.f0 y.f1 p.f0 p.f1 = true
      · obtain ⟨c1, c2⟩ := (cont_iff hoy hop).1 hc
        obtain ⟨z, h1, h2, h3, h9⟩ := ih (y :: s) hs hl' hp2 (fun y' r e => by
          obtain ⟨rfl, _⟩ := List.cons.inj e
          exact ⟨p, hop, c1, c2, hp1⟩)
        refine ⟨z, ?_, h2, fun a => ?_, by simp at h9 ⊢; omega⟩
        · refine Evt.bindc (f := fun k b => if b = true then addr_plain.go k (y :: s) l else (addr_plain.up k (s.length + 1) (p :: y :: s)).bind fun z => addr_plain.go k z l) (contains_is _ _ _ _ hoy.1 hop.1) ?_
          exact Evt.ite_pos hc h1
        · rw [h3 a, hcons]
          have hn := nest hoy hop c1 c2
          have : hasP p a → cov (y :: s) a := fun h => ⟨y, by simp, ⟨by have := c2.1; have := h.1; omega, by have := h.2; omega⟩⟩
          constructor
          · rintro (h | h)
            · exact .inl h
            · exact .inr (.inr h)
          · rintro (h | h | h)
            · exact .inl h
            · exact .inl (this h)
            · exact .inr h
      · have hge : hiP y ≤ p.f0 := by
          rcases Int.lt_or_le p.f0 (hiP y) with h | h
          · exfalso
            have hlo : y.f0 ≤ p.f0 := by
              have := hyq.1
              rcases hqp with e | e <;> omega
            rcases Int.lt_or_le p.f1 y.f1 with hb | hb
            · have e := nest2 hoy hop (by omega) ⟨hlo, h⟩
              have := hyq.1
              rcases hqp with e2 | e2
              · omega
              · omega
            · exact hc ((cont_iff hoy hop).2 ⟨hb, hlo, h⟩)
          · exact h
        obtain ⟨y', z', h1, h2, h3, h4, h5, h8⟩ := up_ev (y :: s) (s.length + 1) p (by simp) hop hs (fun x r e => by
          obtain ⟨rfl, _⟩ := List.cons.inj e; exact hge)
        obtain ⟨z, g1, g2, g3, g9⟩ := ih (y' :: z') h2 hl' hp2 (fun y r e => by
          obtain ⟨rfl, _⟩ := List.cons.inj e
          exact ⟨p, hop, h4, h5, hp1⟩)
        refine ⟨z, ?_, g2, fun a => ?_, by simp at h8 g9 ⊢; omega⟩
        · refine Evt.bindc (f := fun k b => if b = true then addr_plain.go k (y :: s) l else (addr_plain.up k (s.length + 1) (p :: y :: s)).bind fun z => addr_plain.go k z l) (contains_is _ _ _ _ hoy.1 hop.1) ?_
          exact Evt.ite_neg hc (Evt.bind h1 g1)
        · rw [g3 a, h3 a, hcons]
          have : cov (p :: y :: s) a ↔ hasP p a ∨ cov (y :: s) a := by unfold cov; simp
          rw [this, or_assoc, or_left_comm]
end Go.Proofs.Ytckffheolnmcnaa.P

end
section
set_option linter.unusedVariables false
set_option linter.unusedSimpArgs false
namespace Go.Proofs.Ytckffheolnmcnaa.P
open Go.RowKit Go.Sort Go.Proofs.YtckffheolnmcnaaW.PrintWords Go.Proofs.YtckffheolnmcnaaW.PrintLast Go.Proofs.YtckffheolnmcnaaW.PrintMore

theorem ordP_le (x y : Pf) : ordP x y ≤ 0 ↔ leP x y := by
  unfold ordP orI cmpI leP
  by_cases h1 : x.f0 < y.f0
  · simp [h1]
  · by_cases h2 : y.f0 < x.f0
    · simp [h1, h2]; omega
    · have e : x.f0 = y.f0 := by omega
      by_cases h3 : x.f1 < y.f1
      · simp [h1, h2, h3, e]; omega
      · by_cases h4 : y.f1 < x.f1
        · simp [h1, h2, h3, h4, e]
        · simp [h1, h2, h3, h4, e]; omega
theorem sort_le (x y : Pf) : (!(ltOf ordP) y x) = true ↔ leP x y := by
  unfold ltOf
  have := ordP_ord.1 x y
  rw [← ordP_le]
  by_cases h : ordP y x < 0
  · simp [h]; omega
  · simp [h]; omega
theorem leP_trans {x y z : Pf} (h : leP x y) (g : leP y z) : leP x z := by
  rcases h with h | ⟨h, h'⟩ <;> rcases g with g | ⟨g, g'⟩
  · exact .inl (by omega)
  · exact .inl (by omega)
  · exact .inl (by omega)
  · exact .inr ⟨by omega, by omega⟩
theorem leP_total (x y : Pf) : leP x y ∨ leP y x := by
  unfold leP; omega
theorem leP_anti {x y : Pf} (h : leP x y) (g : leP y x) : x = y := by
  cases x; cases y
  unfold leP at *
  simp at *
  omega
theorem sortP_perm (l : List Pf) : (sortP l).Perm l := List.mergeSort_perm _ _
theorem sortP_sorted (l : List Pf) : (sortP l).Pairwise leP := by
  have := List.pairwise_mergeSort (le := fun x y => !(ltOf ordP) y x) (fun x y z h g => (sort_le x z).2 (leP_trans ((sort_le x y).1 h) ((sort_le y z).1 g))) (fun x y => by
    rcases leP_total x y with h | h
    · rw [(sort_le x y).2 h]; rfl
    · rw [(sort_le y x).2 h]; simp) l
  exact this.imp (fun h => (sort_le _ _).1 h)
theorem sorted_one : ∀ {l m : List Pf}, l.Perm m → l.Pairwise leP → m.Pairwise leP → l = m := by
  intro l
  induction l with
  | nil => intro m h _ _; exact (List.Perm.nil_eq h)
  | cons x l ih =>
    intro m h hl hm
    cases m with
    | nil => exact absurd h.length_eq (by simp)
    | cons y m =>
      have e : x = y := by
        have h1 : x ∈ y :: m := h.subset (by simp)
        have h2 : y ∈ x :: l := h.symm.subset (by simp)
        rcases List.mem_cons.1 h1 with e | e
        · exact e
        · rcases List.mem_cons.1 h2 with e2 | e2
          · exact e2.symm
          · exact leP_anti ((List.pairwise_cons.1 hl).1 y e2) ((List.pairwise_cons.1 hm).1 x e)
      subst e
      rw [ih ((List.perm_cons x).1 h) (List.pairwise_cons.1 hl).2 (List.pairwise_cons.1 hm).2]
theorem sortP_rev (l : List Pf) : sortP l.reverse = sortP l :=
  sorted_one (((sortP_perm _).trans (List.reverse_perm l)).trans (sortP_perm l).symm) (sortP_sorted _) (sortP_sorted _)
theorem sortP_self {l : List Pf} (h : l.Pairwise leP) : sortP l = l := sorted_one (sortP_perm l) (sortP_sorted l) h
/-- ahead of one another, and not the halves of one -/
def Rp (x y : Pf) : Prop := hiP x ≤ y.f0 ∧ sisB x y = false
def Pln (l : List Pf) : Prop := (∀ p ∈ l, okP p) ∧ l.Pairwise Rp
theorem Stk.all : ∀ {s : List Pf}, Stk s → (∀ p ∈ s, okP p) ∧ s.Pairwise (fun y x => Rp x y) := by
  intro s
  induction s with
  | nil => intro _; exact ⟨by simp, List.Pairwise.nil⟩
  | cons y r ih =>
    intro h
    obtain ⟨h1, h2⟩ := ih h.tail
    refine ⟨fun p hp => ?_, List.pairwise_cons.2 ⟨fun q hq => ?_, h2⟩⟩
    · rcases List.mem_cons.1 hp with rfl | hp
      · exact h.head
      · exact h1 p hp
    · cases r with
      | nil => simp at hq
      | cons x r =>
        obtain ⟨hy, hxy, hs, hr⟩ := h
        rcases List.mem_cons.1 hq with rfl | hq
        · exact ⟨hxy, hs⟩
        · have hqx := ((List.pairwise_cons.1 h2).1 q hq).1
          have := hi_pos x
          refine ⟨by omega, ?_⟩
          cases hb : sisB q y with
          | false => rfl
          | true =>
            obtain ⟨_, _, _, e⟩ := (sisB_iff q y).1 hb
            unfold hiP at *; omega
theorem Stk.pln {s : List Pf} (h : Stk s) : Pln s.reverse :=
  ⟨fun p hp => h.all.1 p (by simpa using hp), List.pairwise_reverse.2 h.all.2⟩
theorem Pln.sorted {l : List Pf} (h : Pln l) : l.Pairwise leP := h.2.imp (fun {x y} h => .inl (by have := hi_pos x; have := h.1; omega))
theorem Rp.not1 {x y : Pf} (hx : okP x) (hy : okP y) (h : Rp x y) : contB x.f0 x.f1 y.f0 y.f1 = false := by
  cases hb : contB x.f0 x.f1 y.f0 y.f1 with
  | false => rfl
  | true => have := ((cont_iff hx hy).1 hb).2.2; have := h.1; omega
theorem Rp.not2 {x y : Pf} (hx : okP x) (hy : okP y) (h : Rp x y) : contB y.f0 y.f1 x.f0 x.f1 = false := by
  cases hb : contB y.f0 y.f1 x.f0 x.f1 with
  | false => rfl
  | true => have := ((cont_iff hy hx).1 hb).2.1; have := h.1; have := hi_pos x; omega
theorem go_self : ∀ (l s : List Pf), Pln (s.reverse ++ l) → Evt (fun k => addr_plain.go k s l) (s.reverse ++ l).reverse := by
  intro l
  induction l with
  | nil => intro s _; exact Evt.of fun k => by cases s <;> simp [addr_plain.go]
  | cons p l ih =>
    intro s h
    have h' : Pln ((p :: s).reverse ++ l) := by simpa using h
    have hg := ih (p :: s) h'
    have e : ((p :: s).reverse ++ l) = s.reverse ++ p :: l := by simp
    rw [e] at hg
    cases s with
    | nil => exact hg
    | cons y s =>
      have hop : okP p := h.1 p (by simp)
      have hoy : okP y := h.1 y (by simp)
      have hr : Rp y p := by
        have := (List.pairwise_append.1 h.2).2.2 y (by simp) p (by simp)
        exact this
      refine Evt.bindc (f := fun k b => if b = true then addr_plain.go k (y :: s) l else (addr_plain.up k (s.length + 1) (p :: y :: s)).bind fun z => addr_plain.go k z l) (contains_is _ _ _ _ hoy.1 hop.1) ?_
      refine Evt.ite_neg (by rw [hr.not1 hoy hop]; decide) (Evt.bind (a := p :: y :: s) ?_ hg)
      refine Evt.bind (f := fun k b => if b = true then addr_plain.up k s.length (⟨y.f0, wrap64 (y.f1 - 1)⟩ :: s) else some (p :: y :: s)) (sister_ev hoy hop) ?_
      exact Evt.ite_neg (by rw [hr.2]; decide) (Evt.of fun k => rfl)
/-- the plain list of any -/
theorem plain_ev (l : List Pf) (hl : l.length ≤ 1000000) (ho : ∀ p ∈ l, okP p) : ∃ z, Evt (fun k => addr_plain.f k l) z ∧ Pln z ∧ (∀ a, cov z a ↔ cov l a) ∧ Evt (fun k => addr_plain.f k l.reverse) z ∧ z.length ≤ l.length := by
  obtain ⟨s, h1, h2, h3, h9⟩ := go_ev (sortP l) [] trivial (fun p hp => ho p ((sortP_perm l).subset hp)) (sortP_sorted l) (by intro y r e; cases e)
  have hb : Evt (fun k => (addr_plain.go k [] (sortP l)).bind fun z => some z.reverse) s.reverse := Evt.bind h1 (Evt.of fun k => rfl)
  refine ⟨s.reverse, ?_, h2.pln, fun a => ?_, ?_, by have := (sortP_perm l).length_eq; simp at h9 ⊢; omega⟩
  · unfold addr_plain.f; exact Evt.ite_pos hl hb
  · have e1 : cov s.reverse a ↔ cov s a := by unfold cov; simp
    have e2 : cov (sortP l) a ↔ cov l a := by
      unfold cov
      constructor
      · rintro ⟨p, hp, h⟩; exact ⟨p, (sortP_perm l).subset hp, h⟩
      · rintro ⟨p, hp, h⟩; exact ⟨p, (sortP_perm l).symm.subset hp, h⟩
    rw [e1, h3 a, e2]; unfold cov; simp
  · unfold addr_plain.f; rw [sortP_rev]; exact Evt.ite_pos (by simpa using hl) hb
theorem plain_self (l : List Pf) (hl : l.length ≤ 1000000) (h : Pln l) : Evt (fun k => addr_plain.f k l) l := by
  unfold addr_plain.f
  rw [sortP_self h.sorted]
  have := go_self l [] (by simpa using h)
  refine Evt.ite_pos hl (Evt.bind this (Evt.of fun k => ?_))
  simp
end Go.Proofs.Ytckffheolnmcnaa.P

end
section
set_option linter.unusedVariables false
set_option linter.unusedSimpArgs false
namespace Go.Proofs.Ytckffheolnmcnaa.P
open Go.RowKit Go.Sort Go.Proofs.YtckffheolnmcnaaW.PrintWords Go.Proofs.YtckffheolnmcnaaW.PrintLast Go.Proofs.YtckffheolnmcnaaW.PrintMore

theorem rd_at {l : List Pf} {i : Int} {x : Pf} (h : l[i.toNat]? = some x) : rd_T30 l i = x := by
  unfold rd_T30; rw [List.getD_eq_getElem?_getD, h]; rfl
theorem at_ex {l : List Pf} {i : Int} (h0 : 0 ≤ i) (h : i < l.length) : ∃ x, l[i.toNat]? = some x ∧ x ∈ l ∧ l.drop i.toNat = x :: l.drop (i.toNat + 1) ∧ rd_T30 l i = x := by
  have hh : i.toNat < l.length := by omega
  exact ⟨l[i.toNat], List.getElem?_eq_getElem hh, List.getElem_mem hh, List.drop_eq_getElem_cons hh, rd_at (List.getElem?_eq_getElem hh)⟩
def whyL (l : List Pf) : Int := if l.length > 1024 then 2 else if l.all (fun p => mayB p.f0 p.f1) then 0 else 1
theorem whyL_ok {l : List Pf} (hA : ∀ p ∈ l, isA p.f0) : whyL l = 0 ↔ l.length ≤ 1024 ∧ ∀ p ∈ l, okP p := by
  unfold whyL okP
  by_cases h : l.length > 1024
  · rw [if_pos h]; simp; omega
  · rw [if_neg h]
    by_cases h2 : l.all (fun p => mayB p.f0 p.f1) = true
    · rw [if_pos h2]
      rw [List.all_eq_true] at h2
      simp only [true_iff]
      exact ⟨by omega, fun p hp => ⟨hA p hp, h2 p hp⟩⟩
    · rw [if_neg h2]
      simp only [Int.one_ne_zero, false_iff, not_and]
      intro _ h3
      exact h2 (List.all_eq_true.2 fun p hp => (h3 p hp).2)
theorem check_ev (l : List Pf) (hA : ∀ p ∈ l, isA p.f0) : Evt (fun k => addr_check.f k l) (whyL l) := by
  unfold addr_check.f whyL
  by_cases h : l.length > 1024
  · rw [if_pos h]; exact Evt.ite_pos (by omega) (Evt.of fun k => rfl)
  · rw [if_neg h]
    refine Evt.ite_neg (by omega) ?_
    have key : ∀ (d : Nat) (i : Int), 0 ≤ i → i ≤ l.length → l.length - i = d → Evt (fun k => addr_check.l0 k l (l.length : Int) i) (if (l.drop i.toNat).all (fun p => mayB p.f0 p.f1) = true then 0 else 1) := by
      intro d
      induction d with
      | zero =>
        intro i h0 h1 hd
        refine Evt.step ?_
        simp only [addr_check.l0]
        rw [List.drop_eq_nil_of_le (by omega)]
        exact Evt.ite_neg (by omega) (Evt.of fun k => rfl)
      | succ d ih =>
        intro i h0 h1 hd
        obtain ⟨x, e1, e2, e3, e4⟩ := at_ex h0 (show i < l.length by omega)
        refine Evt.step ?_
        simp only [addr_check.l0]
        rw [e4, e3, List.all_cons]
        refine Evt.ite_pos (by omega) (Evt.ite_pos h0 (Evt.ite_pos (by omega) (Evt.bindc (may_is _ _ (hA x e2)) ?_)))
        by_cases hm : mayB x.f0 x.f1 = true
        · rw [hm, Bool.true_and, wrap64_in _ (by omega) (by omega)]
          have := ih (i + 1) (by omega) (by omega) (by omega)
          rw [show (i + 1).toNat = i.toNat + 1 by omega] at this
          exact Evt.ite_pos (by first | rfl | trivial) this
        · simp at hm
          rw [hm]
          exact Evt.ite_neg (by decide) (Evt.of fun k => rfl)
    exact key l.length 0 (by omega) (by omega) (by omega)
theorem why_ev (l : List Pf) (hA : ∀ p ∈ l, isA p.f0) : Evt (fun k => whirligigref01_Why.f k l) (whyL l) := by
  unfold whirligigref01_Why.f whyL
  by_cases h : l.length > 1024
  · rw [if_pos h]; exact Evt.ite_pos (by omega) (Evt.of fun k => rfl)
  · rw [if_neg h]
    refine Evt.ite_neg (by omega) ?_
    have key : ∀ (d : Nat) (i : Int), 0 ≤ i → i ≤ l.length → l.length - i = d → Evt (fun k => whirligigref01_Why.l0 k l i) (if (l.drop i.toNat).all (fun p => mayB p.f0 p.f1) = true then 0 else 1) := by
      intro d
      induction d with
      | zero =>
        intro i h0 h1 hd
        refine Evt.step ?_
        simp only [whirligigref01_Why.l0]
        rw [List.drop_eq_nil_of_le (by omega)]
        exact Evt.ite_neg (by omega) (Evt.of fun k => rfl)
      | succ d ih =>
        intro i h0 h1 hd
        obtain ⟨x, e1, e2, e3, e4⟩ := at_ex h0 (show i < l.length by omega)
        refine Evt.step ?_
        simp only [whirligigref01_Why.l0]
        rw [e4, e3, List.all_cons]
        refine Evt.ite_pos (by omega) (Evt.ite_pos h0 (Evt.bind (refMay_ev _ _ (hA x e2)) ?_))
        by_cases hm : mayB x.f0 x.f1 = true
        · rw [hm, Bool.true_and, wrap64_in _ (by omega) (by omega)]
          have := ih (i + 1) (by omega) (by omega) (by omega)
          rw [show (i + 1).toNat = i.toNat + 1 by omega] at this
          exact Evt.ite_pos (by first | rfl | trivial) this
        · simp at hm
          rw [hm]
          exact Evt.ite_neg (by decide) (Evt.of fun k => rfl)
    exact key l.length 0 (by omega) (by omega) (by omega)
theorem Plain_ev (l z : List Pf) (hw : whyL l = 0) (hA : ∀ p ∈ l, isA p.f0) (h : Evt (fun k => addr_plain.f k l) z) : Evt (fun k => addr_Plain.f k l) (z, 0) := by
  unfold addr_Plain.f
  have := check_ev l hA
  rw [hw] at this
  exact Evt.bind this (Evt.ite_pos (by first | rfl | trivial) (Evt.bind h (Evt.of fun k => rfl)))
theorem Plain_not (l : List Pf) (hw : whyL l ≠ 0) (hA : ∀ p ∈ l, isA p.f0) : Evt (fun k => addr_Plain.f k l) ([], whyL l) := by
  unfold addr_Plain.f
  exact Evt.bind (check_ev l hA) (Evt.ite_neg hw (Evt.of fun k => rfl))
def covB (l : List Pf) (z : Int) : Bool := l.any (fun p => inB p.f0 p.f1 z)
theorem covB_iff {l : List Pf} (h : ∀ p ∈ l, okP p) (z : Int) : covB l z = true ↔ cov l z := by
  unfold covB cov
  rw [List.any_eq_true]
  constructor
  · rintro ⟨p, hp, e⟩; exact ⟨p, hp, (in_iff _ _ _ (h p hp).bits.2.2).1 e⟩
  · rintro ⟨p, hp, e⟩; exact ⟨p, hp, (in_iff _ _ _ (h p hp).bits.2.2).2 e⟩
theorem In_ev (l : List Pf) (h : ∀ p ∈ l, okP p) (hl : l.length ≤ 1000000) (z : Int) (hz : isA z) : Evt (fun k => whirligigref01_In.f k l z) (covB l z) := by
  unfold whirligigref01_In.f covB
  have key : ∀ (d : Nat) (i : Int), 0 ≤ i → i ≤ l.length → l.length - i = d → Evt (fun k => whirligigref01_In.l0 k l z i) ((l.drop i.toNat).any (fun p => inB p.f0 p.f1 z)) := by
    intro d
    induction d with
    | zero =>
      intro i h0 h1 hd
      refine Evt.step ?_
      simp only [whirligigref01_In.l0]
      rw [List.drop_eq_nil_of_le (by omega)]
      exact Evt.ite_neg (by omega) (Evt.of fun k => rfl)
    | succ d ih =>
      intro i h0 h1 hd
      obtain ⟨x, e1, e2, e3, e4⟩ := at_ex h0 (show i < l.length by omega)
      refine Evt.step ?_
      simp only [whirligigref01_In.l0]
      rw [e4, e3, List.any_cons]
      refine Evt.ite_pos (by omega) (Evt.ite_pos h0 (Evt.bind (refHas_ev _ _ _ (h x e2).1 hz (h x e2).2) ?_))
      by_cases hm : inB x.f0 x.f1 z = true
      · rw [hm]; exact Evt.ite_pos (by first | rfl | trivial) (Evt.of fun k => rfl)
      · simp at hm
        rw [hm, Bool.false_or, wrap64_in _ (by omega) (by omega)]
        have := ih (i + 1) (by omega) (by omega) (by omega)
        rw [show (i + 1).toNat = i.toNat + 1 by omega] at this
        exact Evt.ite_neg (by decide) this
  exact key l.length 0 (by omega) (by omega) (by omega)
theorem Same_ev (l : List Pf) (hl : l.length ≤ 1000000) : Evt (fun k => whirligigref01_Same.f k l l) true := by
  unfold whirligigref01_Same.f
  refine Evt.ite_pos (by first | rfl | trivial) ?_
  have key : ∀ (d : Nat) (i : Int), 0 ≤ i → i ≤ l.length → l.length - i = d → Evt (fun k => whirligigref01_Same.l0 k l l i) true := by
    intro d
    induction d with
    | zero =>
      intro i h0 h1 hd
      refine Evt.step ?_
      simp only [whirligigref01_Same.l0]
      exact Evt.ite_neg (by omega) (Evt.of fun k => rfl)
    | succ d ih =>
      intro i h0 h1 hd
      refine Evt.step ?_
      simp only [whirligigref01_Same.l0]
      have := ih (i + 1) (by omega) (by omega) (by omega)
      refine Evt.ite_pos (by omega) (Evt.ite_pos h0 (Evt.ite_pos (by omega) (Evt.ite_neg (by simp) ?_)))
      rw [wrap64_in _ (by omega) (by omega)]
      exact this
  exact key l.length 0 (by omega) (by omega) (by omega)
theorem Up_ev (a b : Int) (ha : isA a) (h0 : 1 ≤ b) (h1 : b ≤ 32) : Evt (fun k => whirligigref01_Up.f k a b) (flo a (b - 1), b - 1) := by
  unfold whirligigref01_Up.f
  rw [wrap64_in _ (by omega) (by omega)]
  have hf := flo_isA a (b - 1) ha
  have two : ∀ (d : Nat) (i x : Int), b - 1 ≤ i → i ≤ 32 → 32 - i = d → 0 ≤ x → x * un i = flo a (b - 1) → Evt (fun k => whirligigref01_Up.l0 k i a b x (b - 1)) (flo a (b - 1), b - 1) := by
    intro d
    induction d with
    | zero =>
      intro i x h2 h3 hd hx he
      obtain rfl : i = 32 := by omega
      have : un 32 = 1 := rfl
      rw [this, Int.mul_one] at he
      refine Evt.step ?_
      simp only [whirligigref01_Up.l0]
      exact Evt.ite_neg (by omega) (Evt.of fun k => by rw [he])
    | succ d ih =>
      intro i x h2 h3 hd hx he
      have hu := un_succ i (by omega)
      have hp := un_pos (i + 1)
      have he' : x * 2 * un (i + 1) = flo a (b - 1) := by rw [Int.mul_assoc, ← hu]; exact he
      have hle : x * 2 * 1 ≤ x * 2 * un (i + 1) := Int.mul_le_mul_of_nonneg_left (by omega) (by omega)
      have hmod : x * 2 % 4294967296 = x * 2 := Int.emod_eq_of_lt (by omega) (by have := hf.2; omega)
      have := ih (i + 1) (x * 2) (by omega) (by omega) (by omega) (by omega) he'
      refine Evt.step ?_
      simp only [whirligigref01_Up.l0]
      rw [wrap64_in _ (by omega) (by omega), hmod]
      exact Evt.ite_pos (by omega) (Evt.ite_neg (by omega) this)
  have one : ∀ (d : Nat) (i : Int), 0 ≤ i → i ≤ b - 1 → b - 1 - i = d → Evt (fun k => whirligigref01_Up.l0 k i a b (a / un i) (b - 1)) (flo a (b - 1), b - 1) := by
    intro d
    induction d with
    | zero =>
      intro i h2 h3 hd
      obtain rfl : i = b - 1 := by omega
      have hp := un_pos (b - 1)
      refine two (32 - (b - 1)).toNat (b - 1) _ (by omega) (by omega) (by omega) (Int.ediv_nonneg ha.1 (by omega)) ?_
      have := Int.emod_add_mul_ediv a (un (b - 1))
      rw [Int.mul_comm]
      unfold flo; omega
    | succ d ih =>
      intro i h2 h3 hd
      have hu := un_succ i (by omega)
      have hp := un_pos (i + 1)
      have ea : a / un i = a / un (i + 1) / 2 := by rw [Int.ediv_ediv_of_nonneg (Int.le_of_lt hp), Int.mul_comm, ← hu]
      have e0 : 0 ≤ a / un (i + 1) := Int.ediv_nonneg ha.1 (by omega)
      have e1 : a / un (i + 1) ≤ a := Int.ediv_le_self _ ha.1
      have e2 : a / un i * 2 + bitI a i = a / un (i + 1) := by unfold bitI; omega
      have := ih (i + 1) (by omega) (by omega) (by omega)
      refine Evt.step ?_
      simp only [whirligigref01_Up.l0]
      refine Evt.ite_pos (by omega) (Evt.ite_pos (by omega) (Evt.bind (refBit_ev a i ha h2 (by omega)) ?_))
      have hb : bitI a i = 0 ∨ bitI a i = 1 := by unfold bitI; omega
      have ha2 := ha.2
      rw [wrap64_in _ (by omega) (by omega), Int.emod_eq_of_lt (a := a / un i * 2) (by omega) (by omega), e2, Int.emod_eq_of_lt e0 (by omega)]
      exact this
  have := one (b - 1).toNat 0 (by omega) (by omega) (by omega)
  have e : a / un 0 = 0 := by
    have : un 0 = 4294967296 := rfl
    rw [this]; have := ha.1; have := ha.2; omega
  rw [e] at this
  exact this
theorem up_ne {x y : Pf} (hx : okP x) (hy : okP y) (h : Rp x y) (hb : x.f1 = y.f1) : 1 ≤ x.f1 ∧ flo x.f0 (x.f1 - 1) ≠ flo y.f0 (y.f1 - 1) := by
  obtain ⟨x0, x1, x2⟩ := hx.bits
  obtain ⟨y0, y1, y2⟩ := hy.bits
  have hlt : x.f0 < y.f0 := by have := hi_pos x; have := h.1; omega
  have hb1 : 1 ≤ x.f1 := by
    rcases Int.lt_or_le x.f1 1 with e | e
    · exfalso
      have e1 := flo_self _ _ x2
      have e2 := flo_self _ _ y2
      rw [show x.f1 = 0 by omega, flo_zero _ hx.1] at e1
      rw [show y.f1 = 0 by omega, flo_zero _ hy.1] at e2
      omega
    · exact e
  refine ⟨hb1, fun e => ?_⟩
  have h1 := (flo_down x.f0 x.f1 x1).2
  have h2 := (flo_down y.f0 y.f1 y1).2
  rw [flo_self _ _ x2] at h1
  rw [flo_self _ _ y2, ← e, ← hb] at h2
  have hpu := un_pos x.f1
  have hs : sisB x y = true := (sisB_iff x y).2 ⟨by omega, hb, by omega, by omega⟩
  rw [h.2] at hs
  exact absurd hs (by decide)
theorem IsPlain_ev (l : List Pf) (hl : l.length ≤ 1000000) (h : Pln l) : Evt (fun k => whirligigref01_IsPlain.f k l) true := by
  unfold whirligigref01_IsPlain.f
  have pr : ∀ (i j : Nat) (x y : Pf), i < j → l[i]? = some x → l[j]? = some y → Rp x y := by
    intro i j x y hij hx hy
    obtain ⟨hi, rfl⟩ := List.getElem?_eq_some_iff.1 hx
    obtain ⟨hj, rfl⟩ := List.getElem?_eq_some_iff.1 hy
    exact List.pairwise_iff_getElem.1 h.2 i j hi hj hij
  have outer : ∀ (d : Nat) (i : Int), 0 ≤ i → i ≤ l.length → l.length - i = d → Evt (fun k => whirligigref01_IsPlain.l0 k l i) true := by
    intro d
    induction d with
    | zero =>
      intro i h0 h1 hd
      refine Evt.step ?_
      simp only [whirligigref01_IsPlain.l0]
      exact Evt.ite_neg (by omega) (Evt.of fun k => rfl)
    | succ d ih =>
      intro i h0 h1 hd
      have next := ih (i + 1) (by omega) (by omega) (by omega)
      obtain ⟨y, y1, y2, _, y4⟩ := at_ex h0 (show i < l.length by omega)
      have hoy := h.1 y y2
      have inner : ∀ (e : Nat) (j : Int), 0 ≤ j → j ≤ i → i - j = e → Evt (fun k => whirligigref01_IsPlain.l1 k l i j) true := by
        intro e
        induction e with
        | zero =>
          intro j j0 j1 je
          refine Evt.step ?_
          simp only [whirligigref01_IsPlain.l1]
          rw [wrap64_in (i + 1) (by omega) (by omega)]
          exact Evt.ite_neg (by omega) next
        | succ e ihe =>
          intro j j0 j1 je
          have nx := ihe (j + 1) (by omega) (by omega) (by omega)
          obtain ⟨x, x1, x2, _, x4⟩ := at_ex j0 (show j < l.length by omega)
          have hox := h.1 x x2
          have hr := pr j.toNat i.toNat x y (by omega) x1 y1
          refine Evt.step ?_
          simp only [whirligigref01_IsPlain.l1]
          rw [x4, y4, wrap64_in (j + 1) (by omega) (by omega)]
          refine Evt.ite_pos (by omega) (Evt.ite_pos j0 (Evt.ite_pos (by omega) (Evt.ite_pos h0 (Evt.ite_pos (by omega) ?_))))
          refine Evt.bind (refContains_ev _ _ _ _ hox.1 hoy.1) ?_
          refine Evt.ite_neg (by rw [hr.not1 hox hoy]; decide) (Evt.bind (refContains_ev _ _ _ _ hoy.1 hox.1) (Evt.ite_neg (by rw [hr.not2 hox hoy]; decide) ?_))
          by_cases hb : x.f1 = y.f1
          · obtain ⟨u1, u2⟩ := up_ne hox hoy hr hb
            refine Evt.ite_pos hb (Evt.bind (Up_ev _ _ hox.1 u1 hox.bits.2.1) (Evt.bind (Up_ev _ _ hoy.1 (by omega) hoy.bits.2.1) (Evt.ite_neg ?_ nx)))
            simp only [Bool.and_eq_true, beq_iff_eq, not_and]
            intro e; exact absurd e u2
          · exact Evt.ite_neg hb nx
      have inn := inner i.toNat 0 (by omega) h0 (by omega)
      have j1 : Evt (fun k => whirligigref01_IsPlain.j1 k l i false) true := by
        refine Evt.step ?_
        simp only [whirligigref01_IsPlain.j1]
        exact Evt.ite_neg (by decide) inn
      refine Evt.step ?_
      simp only [whirligigref01_IsPlain.l0]
      rw [y4]
      refine Evt.ite_pos (by omega) (Evt.ite_pos h0 (Evt.bind (refMay_ev _ _ hoy.1) (Evt.ite_pos hoy.2 ?_)))
      by_cases hi : i > 0
      · obtain ⟨x, x1, x2, _, x4⟩ := at_ex (show 0 ≤ i - 1 by omega) (show i - 1 < l.length by omega)
        have hox := h.1 x x2
        have hr := pr (i - 1).toNat i.toNat x y (by omega) x1 y1
        have hlt : x.f0 < y.f0 := by have := hi_pos x; have := hr.1; omega
        have eb : whirligigref01_Before.f x.f0 x.f1 y.f0 y.f1 = some true := by
          unfold whirligigref01_Before.f
          rw [if_neg (by omega)]; simp [hlt]
        rw [wrap64_in (i - 1) (by omega) (by omega), x4]
        exact Evt.ite_pos hi (Evt.ite_pos (by omega) (Evt.ite_pos (by omega) (Evt.bindc eb j1)))
      · exact Evt.ite_neg hi j1
  exact outer l.length 0 (by omega) (by omega) (by omega)
end Go.Proofs.Ytckffheolnmcnaa.P

end
section
namespace Go.Proofs.Ytckffheolnmcnaa.Pure
open Go.RowKit Go.Proofs.Ytckffheolnmcnaa.P Go.Proofs.YtckffheolnmcnaaW.PrintWords Go.Proofs.YtckffheolnmcnaaW.PrintLast Go.Proofs.YtckffheolnmcnaaW.PrintMore
set_option linter.unusedVariables false
set_option linter.unusedSimpArgs false

theorem lastLoop_ev (a b : Int) (ha : isA a) (hb : mayB a b = true) : ∀ (n : Nat) (i : Int), i = b - 1 + n → i ≤ 31 → Evt (fun k => whirligigref01_last.l0 k (a + un (i + 1) - 1) (un (i + 1) % 4294967296) i a b) (a + (un b - 1)) := by
  obtain ⟨b0, b1, b2⟩ := (mayB_iff a b).1 hb
  intro n
  induction n with
  | zero =>
    intro i hi h1
    refine Evt.step ?_
    simp only [whirligigref01_last.l0]
    refine Evt.ite_neg (by omega) (Evt.of fun k => ?_)
    rw [show i + 1 = b by omega, show a + un b - 1 = a + (un b - 1) by omega]
  | succ n ih =>
    intro i hi h1
    have := ih (i - 1) (by omega) (by omega)
    refine Evt.step ?_
    simp only [whirligigref01_last.l0]
    refine Evt.ite_pos (by omega) ?_
    have hp := un_pos (i + 1)
    have hu := un_succ i (by omega)
    have hle := top_le a b ha hb
    have hub : ∀ (m : Nat) (j : Int), j = b + m → j ≤ 32 → un j ≤ un b := by
      intro m
      induction m with
      | zero => intro j hj _; rw [hj]; simp
      | succ m ihm =>
        intro j hj hj2
        have h3 := ihm (j - 1) (by omega) (by omega)
        have h4 := un_succ (j - 1) (by omega)
        rw [show j - 1 + 1 = j by omega] at h4
        have := un_pos j
        omega
    have h5 := hub n i (by omega) (by omega)
    have ha0 := ha.1
    rw [show i - 1 + 1 = i by omega] at this
    rw [wrap64_in _ (by omega) (by omega), Int.emod_eq_of_lt (a := un (i + 1)) (by omega) (by omega), Int.emod_eq_of_lt (a := a + un (i + 1) - 1 + un (i + 1)) (by omega) (by omega)]
    rw [show a + un (i + 1) - 1 + un (i + 1) = a + un i - 1 by omega, show un (i + 1) * 2 = un i by omega]
    exact this
theorem last_ev (a b : Int) (ha : isA a) (hb : mayB a b = true) : Evt (fun k => whirligigref01_last.f k a b) (a + (un b - 1)) := by
  obtain ⟨b0, b1, b2⟩ := (mayB_iff a b).1 hb
  have := lastLoop_ev a b ha hb (32 - b).toNat 31 (by omega) (by omega)
  have e : un (31 + 1) = 1 := rfl
  rw [e, show a + 1 - 1 = a by omega] at this
  exact this
theorem Edges_ev (l : List Pf) (hl : l.length ≤ 1024) (ho : ∀ p ∈ l, okP p) : ∃ r : List Int, Evt (fun k => whirligigref01_Edges.f k l) r ∧ r.length ≤ 4098 ∧ ∀ z ∈ r, isA z := by
  unfold whirligigref01_Edges.f
  have key : ∀ (d : Nat) (i : Int) (r : List Int), 0 ≤ i → i ≤ l.length → l.length - i = d → (∀ z ∈ r, isA z) → r.length + 4 * d ≤ 4098 → ∃ r' : List Int, Evt (fun k => whirligigref01_Edges.l0 k l r i) r' ∧ r'.length ≤ 4098 ∧ ∀ z ∈ r', isA z := by
    intro d
    induction d with
    | zero =>
      intro i r h0 h1 hd hr hn
      refine ⟨r, Evt.step ?_, by omega, hr⟩
      simp only [whirligigref01_Edges.l0]
      exact Evt.ite_neg (by omega) (Evt.of fun k => rfl)
    | succ d ih =>
      intro i r h0 h1 hd hr hn
      obtain ⟨x, e1, e2, e3, e4⟩ := at_ex h0 (show i < l.length by omega)
      have hox := ho x e2
      have hL := last_ev _ _ hox.1 hox.2
      obtain ⟨r', g1, g2, g3⟩ := ih (i + 1) (r ++ [x.f0, (x.f0 - 1) % 4294967296, x.f0 + (un x.f1 - 1), (x.f0 + (un x.f1 - 1) + 1) % 4294967296]) (by omega) (by omega) (by omega) (fun z hz => by
        rcases List.mem_append.1 hz with hz | hz
        · exact hr z hz
        · have := top_le _ _ hox.1 hox.2
          have := un_pos x.f1
          have := hox.1.1
          have := hox.1.2
          simp at hz
          rcases hz with rfl | rfl | rfl | rfl <;> constructor <;> omega) (by simp; omega)
      refine ⟨r', Evt.step ?_, g2, g3⟩
      simp only [whirligigref01_Edges.l0]
      rw [e4]
      refine Evt.ite_pos (by omega) (Evt.ite_pos h0 (Evt.bind hL (Evt.bind hL (Evt.bindc rfl (Evt.ite_pos (by simp; omega) ?_)))))
      rw [wrap64_in _ (by omega) (by omega)]
      exact g1
  obtain ⟨r, h1, h2, h3⟩ := key l.length 0 [0, 4294967295] (by omega) (by omega) (by omega) (fun z hz => by simp at hz; rcases hz with rfl | rfl <;> constructor <;> omega) (by simp; omega)
  exact ⟨r, h1, h2, h3⟩
theorem AddrPlain (x0 : List S30) (x1 : Int) (ok_0 : (okL 16 (ok30)) x0) (ok_1 : (okI .u32) x1) : ∃ k, Go.Proofs.Ytckffheolnmcnaa.P.whirligiglaw01_AddrPlain.f k x0 x1 = some true := by
  have hA : ∀ p ∈ x0, isA p.f0 := fun p hp => okI_u32 (ok_0.2 p hp).1
  have hz : isA x1 := okI_u32 ok_1
  refine Evt.ex ?_
  have hL : Evt (fun k => (whirligiglaw01_lives.f k).bind fun t => some t) true := Evt.bind lives_ev (Evt.pure _)
  unfold whirligiglaw01_AddrPlain.f
  have j0t : Evt (fun k => whirligiglaw01_AddrPlain.j0 k x0 x1 true) true := by
    refine Evt.step ?_
    simp only [whirligiglaw01_AddrPlain.j0]
    exact Evt.ite_pos (by first | rfl | trivial) hL
  have j0f : (x0.length ≤ 40 ∨ 1024 < x0.length) → Evt (fun k => whirligiglaw01_AddrPlain.j0 k x0 x1 false) true := by
    intro hlen
    refine Evt.step ?_
    simp only [whirligiglaw01_AddrPlain.j0]
    refine Evt.ite_neg (by decide) ?_
    by_cases hw : whyL x0 = 0
    · obtain ⟨hle, ho⟩ := (whyL_ok hA).1 hw
      have h40 : x0.length ≤ 40 := by omega
      obtain ⟨z, h1, h2, h3, h4, h5⟩ := plain_ev x0 (by omega) ho
      have hzA : ∀ p ∈ z, isA p.f0 := fun p hp => (h2.1 p hp).1
      have hzw : whyL z = 0 := (whyL_ok hzA).2 ⟨by omega, h2.1⟩
      have hwhy := why_ev x0 hA
      refine Evt.bind (Plain_ev x0 z hw hA h1) (Evt.bind hwhy (Evt.ite_pos hw ?_))
      have hrA : ∀ p ∈ x0.reverse, isA p.f0 := fun p hp => hA p (by simpa using hp)
      have hrw : whyL x0.reverse = 0 := (whyL_ok hrA).2 ⟨by simp; omega, fun p hp => ho p (by simpa using hp)⟩
      have hP2 := Plain_ev x0.reverse z hrw hrA h4
      have hP3 := Plain_ev z z hzw hzA (plain_self z (by omega) h2)
      obtain ⟨r1, a1, a2, a3⟩ := Edges_ev x0 (by omega) ho
      obtain ⟨r2, b1, b2, b3⟩ := Edges_ev z (by omega) h2.1
      have hcov : ∀ e, isA e → covB x0 e = covB z e := by
        intro e he
        have k1 := covB_iff ho e
        have k2 := covB_iff h2.1 e
        have k3 := h3 e
        cases q1 : covB x0 e <;> cases q2 : covB z e <;> simp_all
      have loop : ∀ (es : List Int), (∀ e ∈ es, isA e) → es.length ≤ 100000 → ∀ (d : Nat) (i : Int), 0 ≤ i → i ≤ es.length → es.length - i = d → Evt (fun k => whirligiglaw01_AddrPlain.l1 k x0 z es i) true := by
        intro es hes hn d
        induction d with
        | zero =>
          intro i h0 h1 hd
          refine Evt.step ?_
          simp only [whirligiglaw01_AddrPlain.l1]
          exact Evt.ite_neg (by omega) hL
        | succ d ih =>
          intro i h0 h1 hd
          have hi : i.toNat < es.length := by omega
          have e1 : rd es i = es[i.toNat] := by simp [rd, List.getD_eq_getElem?_getD, List.getElem?_eq_getElem hi]
          have he := hes _ (List.getElem_mem hi)
          rw [← e1] at he
          have nx := ih (i + 1) (by omega) (by omega) (by omega)
          refine Evt.step ?_
          simp only [whirligiglaw01_AddrPlain.l1]
          rw [wrap64_in (i + 1) (by omega) (by omega)]
          refine Evt.ite_pos (by omega) (Evt.ite_pos h0 (Evt.bind (In_ev x0 ho (by omega) _ he) (Evt.bind (In_ev z h2.1 (by omega) _ he) (Evt.ite_neg ?_ nx))))
          rw [hcov _ he]; simp
      have hl1 : Evt (fun k => whirligiglaw01_AddrPlain.l1 k x0 z (r1 ++ r2 ++ [x1]) 0) true := by
        refine loop _ (fun e he => ?_) (by simp; omega) (r1 ++ r2 ++ [x1]).length 0 (by omega) (by omega) (by omega)
        rcases List.mem_append.1 he with he | he
        · rcases List.mem_append.1 he with he | he
          · exact a3 e he
          · exact b3 e he
        · simp at he; subst he; exact hz
      have hj2 : Evt (fun k => whirligiglaw01_AddrPlain.j2 k x0 x1 z false) true := by
        refine Evt.step ?_
        simp only [whirligiglaw01_AddrPlain.j2]
        exact Evt.ite_neg (by decide) (Evt.bind a1 (Evt.bind b1 (Evt.ite_pos (by omega) (Evt.bindc rfl (Evt.ite_pos (by simp; omega) hl1)))))
      have back : ∀ (d : Nat) (i : Int) (acc : List Pf), i = (d : Int) - 1 → i < x0.length → acc = (x0.drop d).reverse → Evt (fun k => whirligiglaw01_AddrPlain.l0 k x0 x1 z 0 acc i) true := by
        intro d
        induction d with
        | zero =>
          intro i acc hi h1 hacc
          rw [List.drop_zero] at hacc
          subst hacc
          refine Evt.step ?_
          simp only [whirligiglaw01_AddrPlain.l0]
          refine Evt.ite_neg (by omega) (Evt.bind hP2 (Evt.bind hP3 (Evt.ite_pos (by first | rfl | trivial) (Evt.ite_pos (by first | rfl | trivial) (Evt.ite_pos (by first | rfl | trivial) (Evt.bind (IsPlain_ev z (by omega) h2) (Evt.ite_pos (by first | rfl | trivial) (Evt.bind (Same_ev z (by omega)) (Evt.ite_pos (by first | rfl | trivial) (Evt.bind (Same_ev z (by omega)) hj2))))))))))
        | succ d ih =>
          intro i acc hi h1 hacc
          obtain ⟨x, e1, e2, e3, e4⟩ := at_ex (show 0 ≤ i by omega) h1
          have hd : i.toNat = d := by omega
          rw [hd] at e3
          have nx := ih (i - 1) (acc ++ [x]) (by omega) (by omega) (by rw [e3, List.reverse_cons, hacc])
          have hal : acc.length ≤ x0.length := by rw [hacc]; simp
          refine Evt.step ?_
          simp only [whirligiglaw01_AddrPlain.l0]
          rw [e4, wrap64_in (i - 1) (by omega) (by omega)]
          exact Evt.ite_pos (by omega) (Evt.ite_pos (by omega) (Evt.ite_pos (by omega) (Evt.ite_pos (by omega) nx)))
      rw [wrap64_in _ (by omega) (by omega)]
      exact back x0.length _ [] (by omega) (by omega) (by simp)
    · refine Evt.bind (Plain_not x0 hw hA) (Evt.bind (why_ev x0 hA) (Evt.ite_neg hw (Evt.ite_pos (by first | rfl | trivial) (Evt.bind (why_ev x0 hA) (Evt.ite_pos (by first | rfl | trivial) hL)))))
  by_cases h : x0.length ≤ 40
  · exact Evt.ite_neg (by omega) (j0f (.inl h))
  · refine Evt.ite_pos (by omega) ?_
    by_cases h2 : x0.length ≤ 1024
    · rw [decide_eq_true (by omega : (x0.length : Int) ≤ 1024)]; exact j0t
    · rw [decide_eq_false (by omega : ¬ (x0.length : Int) ≤ 1024)]; exact j0f (.inr (by omega))
end Go.Proofs.Ytckffheolnmcnaa.Pure

end

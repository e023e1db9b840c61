/- Part of the proof of RowAddrHalves: what it asks of functions, words and plain facts (put together by this session's own program, wip/tools/shake.py). -/
import Derived.Test.YtckffheolnmcnaaZAddrHalves0
import Derived.Test.YtckffheolnmcnaaZAddrHalves1
import Derived.Test.YtckffheolnmcnaaZAddrHalves2
import Derived.Test.YtckffheolnmcnaaZAddrHalves3
import Derived.Deep.Slices
import Derived.ChangeArms
import Derived.OpenShut
import Derived.SizedLaws
import Derived.KernelRfl
section
namespace Go.Proofs.Ytckffheolnmcnaa.P
open Go.RowKit Go.Proofs.YtckffheolnmcnaaW.PrintWords Go.Proofs.YtckffheolnmcnaaW.PrintLast Go.Proofs.YtckffheolnmcnaaW.PrintMore
attribute [local go_sem] max2_int min2_int max_two min_two max_three min_three max_four min_four   -- for this text's walks alone
set_option linter.unusedVariables false
set_option linter.unusedSimpArgs false

attribute [local go_sem high] eqA30
def whirligiglaw01_AddrHalves.j0 : Nat → Int → Int → Bool → Int → Int → Int → Int → Int → Int → Option (Bool)
  | 0, _, _, _, _, _, _, _, _, _ => none
  | k + 1, x1, x7, x24, x343000, x343001, x349000, x349001, x350000, x350001 => if x24 = true then ((addr_May.f x343000 x343001).bind fun t351 => (if ((x7 == 1) == (!t351)) = true then ((addr_May.f x343000 x343001).bind fun t352 => (if t352 = true then (if ((x7 == 5) == (x343001 == 32)) = true then (if (x349000 == 0 && (x349001 == 0)) = true then (if (x350000 == x349000 && (x350001 == x349001)) = true then ((whirligiglaw01_lives.f k).bind fun t353 => (some t353)) else (some false)) else (some false)) else (some false)) else (if ((x7 == 5) == false) = true then (if (x349000 == 0 && (x349001 == 0)) = true then (if (x350000 == x349000 && (x350001 == x349001)) = true then ((whirligiglaw01_lives.f k).bind fun t354 => (some t354)) else (some false)) else (some false)) else (some false)))) else (some false))) else ((addr_Above.f k x349000 x349001 x350000 x350001).bind fun bt355 => ((addr_Has.f x349000 x349001 x1).bind fun t359 => ((addr_Has.f x350000 x350001 x1).bind fun t360 => (if x7 = 0 then (if bt355.2.2 = 0 then (if (bt355.1 == x343000 && (bt355.2.1 == x343001)) = true then ((addr_May.f x349000 x349001).bind fun t361 => (if t361 = true then ((addr_May.f x350000 x350001).bind fun t362 => (if t362 = true then ((addr_Has.f x343000 x343001 x1).bind fun t363 => (if ((t359 != t360) == t363) = true then ((addr_Before.f x349000 x349001 x350000 x350001).bind fun t364 => (if t364 = true then ((whirligiglaw01_lives.f k).bind fun t365 => (some t365)) else (some false))) else (some false))) else (some false))) else (some false))) else (some false)) else (some false)) else (some false)))))
def whirligiglaw01_AddrHalves.f (k : Nat) (a0_0 : Int) (a0_1 : Int) (a1 : Int) : Option (Bool) := (addr_Halves.f a0_0 a0_1).bind fun bt343 => ((addr_May.f a0_0 a0_1).bind fun t350 => (if t350 = true then (whirligiglaw01_AddrHalves.j0 k a1 bt343.2.2.2.2 (a0_1 == 32) a0_0 a0_1 bt343.1 bt343.2.1 bt343.2.2.1 bt343.2.2.2.1) else (whirligiglaw01_AddrHalves.j0 k a1 bt343.2.2.2.2 true a0_0 a0_1 bt343.1 bt343.2.1 bt343.2.2.1 bt343.2.2.2.1)))
def whirligiglaw01_AddrHalves.T5 : Bool × List (List Nat × List Nat) := (true, [([], []), ([], []), ([0, 1], [0, 1]), ([], []), ([], []), ([3, 4, 2], [3, 4]), ([2, 5], [2, 5]), ([6, 5, 0, 1, 2, 3, 4, 5, 6], [6])])
def whirligiglaw01_AddrHalves.B5 : List Nat := [0, 0, 3, 0, 0, 31, 63, 127]
theorem whirligiglaw01_AddrHalves.tab5 : rtab .any (opsOf Try.f6 5) = whirligiglaw01_AddrHalves.T5 := by kernel_rfl
theorem whirligiglaw01_AddrHalves.bits5 : waitsOk whirligiglaw01_AddrHalves.T5.2 whirligiglaw01_AddrHalves.B5 = true := by kernel_rfl
theorem ka6e7.b2 {W : World} {g : Nat} {v0 v1 : Value} {t : TypeId} (h : W.heap[g]? = some (.cells #[v0, v1] t (0, 0))) {R : Prop} (r : R) : W.cell? ⟨g, 0, none⟩ = some v0 ∧ W.cell? ⟨g, 1, none⟩ = some v1 ∧ R :=
  ⟨(blk_cell h 0).trans rfl, (blk_cell h 1).trans rfl, r⟩
theorem ka6e7.b2e {W : World} {g : Nat} {v0 v1 : Value} {t : TypeId} (h : W.heap[g]? = some (.cells #[v0, v1] t (0, 0))) : W.cell? ⟨g, 0, none⟩ = some v0 ∧ W.cell? ⟨g, 1, none⟩ = some v1 :=
  ⟨(blk_cell h 0).trans rfl, (blk_cell h 1).trans rfl⟩
theorem ka6e7.q {w W W' : World} {g : Nat} {o : Obj} (h : w.heap[g]? = some o) (hb : Below W.heap.size W W') (e : W.heap = w.heap) : W'.heap[g]? = some o := blk_below (e ▸ h) hb
theorem ka6e7.z {w0 w W W' : World} (h : Below w0.heap.size w0 w) (hb : Below W.heap.size W W') (e : W.heap = w.heap) (e1 : W.os = w.os) (e2 : W.tape = w.tape) (e3 : W.output = w.output) : Below w0.heap.size w0 W' := below_step ⟨e1.trans h.os, e2.trans h.tape, e3.trans h.output, e ▸ h.size, fun k hk => by rw [e]; exact h.block k hk⟩ hb
@[reducible] def ka6e7.S0 (g0 g1 : Nat) (v0 v1 v2 v3 : Value) (w' : World) : Prop := w'.cell? ⟨g0, 0, none⟩ = some v0 ∧ w'.cell? ⟨g0, 1, none⟩ = some v1 ∧ w'.cell? ⟨g1, 0, none⟩ = some v2 ∧ w'.cell? ⟨g1, 1, none⟩ = some v3
set_option maxHeartbeats 8000000 in
set_option maxRecDepth 100000 in
theorem whirligiglaw01_AddrHalves.calls (k : Nat) (am : Int) (al : Int) (a1 : Int) (r : Bool) (w : World) (h : whirligiglaw01_AddrHalves.f k am al a1 = some r) :
  Calls Try.prog 6 #[.agg #[.int .u32 am, .int .i64 al], .int .u32 a1] w fun e w' => e = .returned (.bool r) ∧ Below w.heap.size w w' := by
 have hu30 := Try.underlying30
 have HB := Aside0.mk (Below.refl w.heap.size w)
 have H := h
 unfold whirligiglaw01_AddrHalves.f at H
 clear h
 replace H := Option.bind_eq_some_iff.mp H
 obtain ⟨⟨t343, t344, t345, t346, t347⟩, A30, H⟩ := H
 (try dsimp only at H)
 have A3 := Aside0.mk A30
 clear A30
 have HC4 := Aside0.mk H
 clear H
 go_enter Try.func6, Try.ntmps6
 go_upto_region 2 with (first | ((with_reducible refine gate_dst (N := 2) rfl ?_); refine box_event ?hg (N := 2) ?hd (cs := #[.int .u32 am, .int .i64 al]) (t := 30) ?hr ?_; (case hd => rfl); (case hg => rfl); (case hr => first | (go_simp; done) | (go_simp; rfl)); intro af hg w5 hbox hb; have n0_ := Aside0.mk (ka6e7.z HB.out hb rfl rfl rfl rfl); have n1_ := Aside0.mk (hbox); have n2_ := Aside0.mk ((by rw [hg]; exact (below_size (by repeat (first | (with_reducible first | exact HB.out | apply below_alloc | apply pw_below_drewN | apply below_drew1) | exact HB.out))) : w.heap.size ≤ af)); have n3_ := Aside0.mk ((by rw [hg]; exact (below_size (by repeat (first | (with_reducible first | exact HB.out | apply below_alloc | apply pw_below_drewN | apply below_drew1) | exact HB.out))) : w.heap.size ≤ af)); clear HB; have HB := n0_; have aa := n1_; have GW342 := n2_; have ag := n3_; clear n0_ n1_ n2_ n3_; clear hb hbox hg; have hcz6_0 : w5.cell? ⟨af, 0, none⟩ = some (.int .u32 am) := (blk_cell aa.out 0).trans rfl; have hcz6_1 : w5.cell? ⟨af, 1, none⟩ = some (.int .i64 al) := (blk_cell aa.out 1).trans rfl; have hfz6_0 := blk_frozen aa.out 0; have hfz6_1 := blk_frozen aa.out 1) | ((with_reducible refine gate_callee (f := 26) rfl ?_); refine goesL_ (some 13) rfl rfl Try.func26 (by kernel_rfl) rfl #[.agg #[.int .u32 am, .int .i64 al]] rfl (by (try simp only [List.map_toArray, List.map_cons, List.map_nil]); first | done | rfl) ?_; (with_reducible refine (addr_Halves.calls am al t343 t344 t345 t346 t347 _ A3.out).mono ?_); rintro e w7 ⟨rfl, hb⟩; refine ⟨_, rfl, ?_⟩; replace aa := Aside0.mk (ka6e7.q aa.out hb rfl); replace HB := Aside0.mk (below_step (by repeat (first | (with_reducible first | exact HB.out | apply below_alloc | apply pw_below_drewN | apply below_drew1 | refine below_set ?_ ag.out) | exact HB.out)) hb); (try clear hb); (try clear a5); (try clear hk); (try clear hi)) | ((with_reducible refine gate_dst (N := 5) rfl ?_); refine box_event ?hg (N := 5) ?hd (cs := #[.int .u32 0, .int .i64 0]) (t := 30) ?hr ?_; (case hd => rfl); (case hg => rfl); (case hr => first | (go_simp; done) | (go_simp; rfl)); intro aj hg w8 hbox hb; have n0_ := Aside0.mk (ka6e7.q aa.out hb rfl); have n1_ := Aside0.mk (below_step (by repeat (first | (with_reducible first | exact HB.out | apply below_alloc | apply pw_below_drewN | apply below_drew1 | refine below_set ?_ ag.out) | exact HB.out)) hb); have n2_ := Aside0.mk (hbox); have n3_ := Aside0.mk ((by rw [hg]; exact (below_size (by repeat (first | (with_reducible first | exact HB.out | apply below_alloc | apply pw_below_drewN | apply below_drew1 | refine below_set ?_ ag.out) | exact HB.out))) : w.heap.size ≤ aj)); have n4_ := Aside0.mk ((by rw [hg]; exact (below_size (by repeat (first | (with_reducible first | exact HB.out | apply below_alloc | apply pw_below_drewN | apply below_drew1 | refine below_set ?_ ag.out) | exact HB.out))) : w.heap.size ≤ aj)); have n5_ := Aside0.mk ((by rw [hg]; exact Nat.ne_of_lt (blk_lt (g := af) (o := .cells #[.int .u32 am, .int .i64 al] 30 (0, 0)) (by (with_reducible repeat (first | refine blk_drewN ?_ _ | refine blk_drew ?_ | refine blk_alloc ?_ _)); exact aa.out)) : af ≠ aj)); have n6_ := Aside0.mk ((by rw [hg]; exact Nat.ne_of_gt (blk_lt (g := af) (o := .cells #[.int .u32 am, .int .i64 al] 30 (0, 0)) (by (with_reducible repeat (first | refine blk_drewN ?_ _ | refine blk_drew ?_ | refine blk_alloc ?_ _)); exact aa.out)) : aj ≠ af)); clear aa; clear HB; have aa := n0_; have HB := n1_; have ab := n2_; have GW348 := n3_; have ah := n4_; have aq := n5_; have av := n6_; clear n0_ n1_ n2_ n3_ n4_ n5_ n6_; clear hb hbox hg) | ((with_reducible refine gate_dst (N := 6) rfl ?_); refine box_event ?hg (N := 6) ?hd (cs := #[.int .u32 0, .int .i64 0]) (t := 30) ?hr ?_; (case hd => rfl); (case hg => rfl); (case hr => first | (go_simp; done) | (go_simp; rfl)); intro ak hg w9 hbox hb; have n0_ := Aside0.mk (ka6e7.q aa.out hb rfl); have n1_ := Aside0.mk (ka6e7.q ab.out hb rfl); have n2_ := Aside0.mk (below_step (by repeat (first | (with_reducible first | exact HB.out | apply below_alloc | apply pw_below_drewN | apply below_drew1 | refine below_set ?_ ag.out | refine below_set ?_ ah.out) | exact HB.out)) hb); have n3_ := Aside0.mk (hbox); have n4_ := Aside0.mk ((by rw [hg]; exact (below_size (by repeat (first | (with_reducible first | exact HB.out | apply below_alloc | apply pw_below_drewN | apply below_drew1 | refine below_set ?_ ag.out | refine below_set ?_ ah.out) | exact HB.out))) : w.heap.size ≤ ak)); have n5_ := Aside0.mk ((by rw [hg]; exact (below_size (by repeat (first | (with_reducible first | exact HB.out | apply below_alloc | apply pw_below_drewN | apply below_drew1 | refine below_set ?_ ag.out | refine below_set ?_ ah.out) | exact HB.out))) : w.heap.size ≤ ak)); have n6_ := Aside0.mk ((by rw [hg]; exact Nat.ne_of_lt (blk_lt (g := af) (o := .cells #[.int .u32 am, .int .i64 al] 30 (0, 0)) (by (with_reducible repeat (first | refine blk_drewN ?_ _ | refine blk_drew ?_ | refine blk_alloc ?_ _)); exact aa.out)) : af ≠ ak)); have n7_ := Aside0.mk ((by rw [hg]; exact Nat.ne_of_gt (blk_lt (g := af) (o := .cells #[.int .u32 am, .int .i64 al] 30 (0, 0)) (by (with_reducible repeat (first | refine blk_drewN ?_ _ | refine blk_drew ?_ | refine blk_alloc ?_ _)); exact aa.out)) : ak ≠ af)); have n8_ := Aside0.mk ((by rw [hg]; exact Nat.ne_of_lt (blk_lt (g := aj) (o := .cells #[.int .u32 0, .int .i64 0] 30 (0, 0)) (by (with_reducible repeat (first | refine blk_drewN ?_ _ | refine blk_drew ?_ | refine blk_alloc ?_ _)); exact ab.out)) : aj ≠ ak)); have n9_ := Aside0.mk ((by rw [hg]; exact Nat.ne_of_gt (blk_lt (g := aj) (o := .cells #[.int .u32 0, .int .i64 0] 30 (0, 0)) (by (with_reducible repeat (first | refine blk_drewN ?_ _ | refine blk_drew ?_ | refine blk_alloc ?_ _)); exact ab.out)) : ak ≠ aj)); clear aa; clear ab; clear HB; have aa := n0_; have ab := n1_; have HB := n2_; have ac := n3_; have GW349 := n4_; have ai := n5_; have ar := n6_; have aw := n7_; have ax := n8_; have ay := n9_; clear n0_ n1_ n2_ n3_ n4_ n5_ n6_ n7_ n8_ n9_; clear hb hbox hg; have hnb10 := av.out; have hnc10 := aq.out; have hnb11 := ax.out; have hnc11 := ay.out; have hcz12_0 : w9.cell? ⟨aj, 0, none⟩ = some (.int .u32 0) := (blk_cell ab.out 0).trans rfl; have hcz12_1 : w9.cell? ⟨aj, 1, none⟩ = some (.int .i64 0) := (blk_cell ab.out 1).trans rfl; have hfz12_0 := blk_frozen ab.out 0; have hfz12_1 := blk_frozen ab.out 1; have hnb13 := aw.out; have hnc13 := ar.out; have hcz14_0 : w9.cell? ⟨ak, 0, none⟩ = some (.int .u32 0) := (blk_cell ac.out 0).trans rfl; have hcz14_1 : w9.cell? ⟨ak, 1, none⟩ = some (.int .i64 0) := (blk_cell ac.out 1).trans rfl; have hfz14_0 := blk_frozen ac.out 0; have hfz14_1 := blk_frozen ac.out 1))
 (try simp only [Act.put, List.setIfInBounds_toArray, List.set_cons_zero, List.set_cons_succ])
 go_cut [24] (fun v24 wc => ∃ (kq : Nat) (x24_3 : Bool), v24 = .bool x24_3 ∧ Aside0 (whirligiglaw01_AddrHalves.j0 kq a1 t347 x24_3 am al t343 t344 t345 t346 = some r) ∧ Aside0 (kq ≤ k) ∧ Aside0 (wc.heap[af]? = some (.cells #[.int .u32 am, .int .i64 al] 30 (0, 0))) ∧ Aside0 (wc.heap[aj]? = some (.cells #[.int .u32 t343, .int .i64 t344] 30 (0, 0))) ∧ Aside0 (wc.heap[ak]? = some (.cells #[.int .u32 t345, .int .i64 t346] 30 (0, 0))) ∧ Aside0 (Below w.heap.size w wc))
 case first =>
  have H := HC4.out
  clear HC4
  replace H := Option.bind_eq_some_iff.mp H
  obtain ⟨t350, A150, H⟩ := H
  (try dsimp only at H)
  have A15 := Aside0.mk A150
  clear A150
  by_cases c16 : t350 = true
  ·subst c16
   have H1 : (whirligiglaw01_AddrHalves.j0 k a1 t347 (al == 32) am al t343 t344 t345 t346) = some r := by rw [if_pos rfl] at H; exact H
   clear H
   have H := H1
   clear H1
   have H' := Aside0.mk H
   clear H
   have hnb17 := aq.out
   have hnc17 := av.out
   have hnb18 := ar.out
   have hnc18 := aw.out
   have hcz19_0 : w9.cell? ⟨af, 0, none⟩ = some (.int .u32 am) := (blk_cell aa.out 0).trans rfl
   have hcz19_1 : w9.cell? ⟨af, 1, none⟩ = some (.int .i64 al) := (blk_cell aa.out 1).trans rfl
   have hfz19_0 := blk_frozen aa.out 0
   have hfz19_1 := blk_frozen aa.out 1
   go_wp2_with (first | ((with_reducible refine gate_callee (f := 27) rfl ?_); refine goesL_ (some 18) rfl rfl Try.func27 (by kernel_rfl) rfl #[.agg #[.int .u32 am, .int .i64 al]] rfl (by (try simp only [List.map_toArray, List.map_cons, List.map_nil]); first | done | rfl) ?_; (with_reducible refine (addr_May.calls am al true _ A15.out).mono ?_); rintro e w20 ⟨rfl, hb⟩; refine ⟨_, rfl, ?_⟩; replace aa := Aside0.mk (blk_below (g := af) (o := .cells #[.int .u32 am, .int .i64 al] 30 (0, 0)) (by (with_reducible repeat (first | refine blk_drewN ?_ _ | refine blk_drew ?_ | refine blk_alloc ?_ _)); refine blk_far ?_ ar.out _; (with_reducible repeat (first | refine blk_drewN ?_ _ | refine blk_drew ?_ | refine blk_alloc ?_ _)); refine blk_far ?_ ar.out _; (with_reducible repeat (first | refine blk_drewN ?_ _ | refine blk_drew ?_ | refine blk_alloc ?_ _)); refine blk_far ?_ aq.out _; (with_reducible repeat (first | refine blk_drewN ?_ _ | refine blk_drew ?_ | refine blk_alloc ?_ _)); refine blk_far ?_ aq.out _; (with_reducible repeat (first | refine blk_drewN ?_ _ | refine blk_drew ?_ | refine blk_alloc ?_ _)); exact aa.out) hb); replace ab := Aside0.mk (blk_below (g := aj) (o := .cells #[.int .u32 t343, .int .i64 t344] 30 (0, 0)) (by (with_reducible repeat (first | refine blk_drewN ?_ _ | refine blk_drew ?_ | refine blk_alloc ?_ _)); refine blk_far ?_ ax.out _; (with_reducible repeat (first | refine blk_drewN ?_ _ | refine blk_drew ?_ | refine blk_alloc ?_ _)); refine blk_far ?_ ax.out _; (with_reducible repeat (first | refine blk_drewN ?_ _ | refine blk_drew ?_ | refine blk_alloc ?_ _)); refine blk_put (cs := #[.int .u32 t343, .int .i64 0]) ?_ 1 _ rfl; (with_reducible repeat (first | refine blk_drewN ?_ _ | refine blk_drew ?_ | refine blk_alloc ?_ _)); refine blk_put (cs := #[.int .u32 0, .int .i64 0]) ?_ 0 _ rfl; (with_reducible repeat (first | refine blk_drewN ?_ _ | refine blk_drew ?_ | refine blk_alloc ?_ _)); exact ab.out) hb); replace ac := Aside0.mk (blk_below (g := ak) (o := .cells #[.int .u32 t345, .int .i64 t346] 30 (0, 0)) (by (with_reducible repeat (first | refine blk_drewN ?_ _ | refine blk_drew ?_ | refine blk_alloc ?_ _)); refine blk_put (cs := #[.int .u32 t345, .int .i64 0]) ?_ 1 _ rfl; (with_reducible repeat (first | refine blk_drewN ?_ _ | refine blk_drew ?_ | refine blk_alloc ?_ _)); refine blk_put (cs := #[.int .u32 0, .int .i64 0]) ?_ 0 _ rfl; (with_reducible repeat (first | refine blk_drewN ?_ _ | refine blk_drew ?_ | refine blk_alloc ?_ _)); refine blk_far ?_ ay.out _; (with_reducible repeat (first | refine blk_drewN ?_ _ | refine blk_drew ?_ | refine blk_alloc ?_ _)); refine blk_far ?_ ay.out _; (with_reducible repeat (first | refine blk_drewN ?_ _ | refine blk_drew ?_ | refine blk_alloc ?_ _)); exact ac.out) hb); replace HB := Aside0.mk (below_step (by repeat (first | (with_reducible first | exact HB.out | apply below_alloc | apply pw_below_drewN | apply below_drew1 | refine below_set ?_ ag.out | refine below_set ?_ ah.out | refine below_set ?_ ai.out) | exact HB.out)) hb); (try clear hb); (try clear a5); (try clear hk); (try clear hi); have hcz21_0 : w20.cell? ⟨af, 0, none⟩ = some (.int .u32 am) := (blk_cell aa.out 0).trans rfl; have hcz21_1 : w20.cell? ⟨af, 1, none⟩ = some (.int .i64 al) := (blk_cell aa.out 1).trans rfl; have hfz21_0 := blk_frozen aa.out 0; have hfz21_1 := blk_frozen aa.out 1))
   go_meet
   case rel => exact ⟨_, ((al == 32)), (by first | rfl | (simp; done) | (simp [*]; done)), H', ⟨by first | omega | exact Nat.le_refl _⟩, ⟨by (with_reducible repeat (first | refine blk_drewN ?_ _ | refine blk_drew ?_ | refine blk_alloc ?_ _)); exact aa.out⟩, ⟨by (with_reducible repeat (first | refine blk_drewN ?_ _ | refine blk_drew ?_ | refine blk_alloc ?_ _)); exact ab.out⟩, ⟨by (with_reducible repeat (first | refine blk_drewN ?_ _ | refine blk_drew ?_ | refine blk_alloc ?_ _)); exact ac.out⟩, ⟨by repeat (first | (with_reducible first | exact HB.out | apply below_alloc | apply pw_below_drewN | apply below_drew1 | refine below_set ?_ ag.out | refine below_set ?_ ah.out | refine below_set ?_ ai.out) | exact HB.out)⟩⟩
  ·replace c16 := Bool.eq_false_iff.mpr c16
   subst c16
   have H1 : (whirligiglaw01_AddrHalves.j0 k a1 t347 true am al t343 t344 t345 t346) = some r := by rw [if_neg (show ¬ (false = true) by decide)] at H; exact H
   clear H
   have H := H1
   clear H1
   have H' := Aside0.mk H
   clear H
   have hnb22 := aq.out
   have hnc22 := av.out
   have hnb23 := ar.out
   have hnc23 := aw.out
   have hcz24_0 : w9.cell? ⟨af, 0, none⟩ = some (.int .u32 am) := (blk_cell aa.out 0).trans rfl
   have hcz24_1 : w9.cell? ⟨af, 1, none⟩ = some (.int .i64 al) := (blk_cell aa.out 1).trans rfl
   have hfz24_0 := blk_frozen aa.out 0
   have hfz24_1 := blk_frozen aa.out 1
   go_wp2_with (first | ((with_reducible refine gate_callee (f := 27) rfl ?_); refine goesL_ (some 18) rfl rfl Try.func27 (by kernel_rfl) rfl #[.agg #[.int .u32 am, .int .i64 al]] rfl (by (try simp only [List.map_toArray, List.map_cons, List.map_nil]); first | done | rfl) ?_; (with_reducible refine (addr_May.calls am al false _ A15.out).mono ?_); rintro e w25 ⟨rfl, hb⟩; refine ⟨_, rfl, ?_⟩; replace aa := Aside0.mk (blk_below (g := af) (o := .cells #[.int .u32 am, .int .i64 al] 30 (0, 0)) (by (with_reducible repeat (first | refine blk_drewN ?_ _ | refine blk_drew ?_ | refine blk_alloc ?_ _)); refine blk_far ?_ ar.out _; (with_reducible repeat (first | refine blk_drewN ?_ _ | refine blk_drew ?_ | refine blk_alloc ?_ _)); refine blk_far ?_ ar.out _; (with_reducible repeat (first | refine blk_drewN ?_ _ | refine blk_drew ?_ | refine blk_alloc ?_ _)); refine blk_far ?_ aq.out _; (with_reducible repeat (first | refine blk_drewN ?_ _ | refine blk_drew ?_ | refine blk_alloc ?_ _)); refine blk_far ?_ aq.out _; (with_reducible repeat (first | refine blk_drewN ?_ _ | refine blk_drew ?_ | refine blk_alloc ?_ _)); exact aa.out) hb); replace ab := Aside0.mk (blk_below (g := aj) (o := .cells #[.int .u32 t343, .int .i64 t344] 30 (0, 0)) (by (with_reducible repeat (first | refine blk_drewN ?_ _ | refine blk_drew ?_ | refine blk_alloc ?_ _)); refine blk_far ?_ ax.out _; (with_reducible repeat (first | refine blk_drewN ?_ _ | refine blk_drew ?_ | refine blk_alloc ?_ _)); refine blk_far ?_ ax.out _; (with_reducible repeat (first | refine blk_drewN ?_ _ | refine blk_drew ?_ | refine blk_alloc ?_ _)); refine blk_put (cs := #[.int .u32 t343, .int .i64 0]) ?_ 1 _ rfl; (with_reducible repeat (first | refine blk_drewN ?_ _ | refine blk_drew ?_ | refine blk_alloc ?_ _)); refine blk_put (cs := #[.int .u32 0, .int .i64 0]) ?_ 0 _ rfl; (with_reducible repeat (first | refine blk_drewN ?_ _ | refine blk_drew ?_ | refine blk_alloc ?_ _)); exact ab.out) hb); replace ac := Aside0.mk (blk_below (g := ak) (o := .cells #[.int .u32 t345, .int .i64 t346] 30 (0, 0)) (by (with_reducible repeat (first | refine blk_drewN ?_ _ | refine blk_drew ?_ | refine blk_alloc ?_ _)); refine blk_put (cs := #[.int .u32 t345, .int .i64 0]) ?_ 1 _ rfl; (with_reducible repeat (first | refine blk_drewN ?_ _ | refine blk_drew ?_ | refine blk_alloc ?_ _)); refine blk_put (cs := #[.int .u32 0, .int .i64 0]) ?_ 0 _ rfl; (with_reducible repeat (first | refine blk_drewN ?_ _ | refine blk_drew ?_ | refine blk_alloc ?_ _)); refine blk_far ?_ ay.out _; (with_reducible repeat (first | refine blk_drewN ?_ _ | refine blk_drew ?_ | refine blk_alloc ?_ _)); refine blk_far ?_ ay.out _; (with_reducible repeat (first | refine blk_drewN ?_ _ | refine blk_drew ?_ | refine blk_alloc ?_ _)); exact ac.out) hb); replace HB := Aside0.mk (below_step (by repeat (first | (with_reducible first | exact HB.out | apply below_alloc | apply pw_below_drewN | apply below_drew1 | refine below_set ?_ ag.out | refine below_set ?_ ah.out | refine below_set ?_ ai.out) | exact HB.out)) hb); (try clear hb); (try clear a5); (try clear hk); (try clear hi)))
   go_meet
   case rel => exact ⟨_, (true), (by first | rfl | (simp; done) | (simp [*]; done)), H', ⟨by first | omega | exact Nat.le_refl _⟩, ⟨by (with_reducible repeat (first | refine blk_drewN ?_ _ | refine blk_drew ?_ | refine blk_alloc ?_ _)); exact aa.out⟩, ⟨by (with_reducible repeat (first | refine blk_drewN ?_ _ | refine blk_drew ?_ | refine blk_alloc ?_ _)); exact ab.out⟩, ⟨by (with_reducible repeat (first | refine blk_drewN ?_ _ | refine blk_drew ?_ | refine blk_alloc ?_ _)); exact ac.out⟩, ⟨by repeat (first | (with_reducible first | exact HB.out | apply below_alloc | apply pw_below_drewN | apply below_drew1 | refine below_set ?_ ag.out | refine below_set ?_ ah.out | refine below_set ?_ ai.out) | exact HB.out)⟩⟩
 case rest =>
  clear HC4
  try clear c1
  try clear c2
  try clear p2
  try clear c6
  try clear c10
  try clear c11
  try clear c13
  try clear c16
  try clear c17
  try clear c18
  try clear c22
  try clear c23
  try clear hcz12_0
  try clear hcz12_1
  try clear hcz14_0
  try clear hcz14_1
  try clear hcz19_0
  try clear hcz19_1
  try clear hcz21_0
  try clear hcz21_1
  try clear hcz24_0
  try clear hcz24_1
  try clear hcz6_0
  try clear hcz6_1
  try clear hfz12_0
  try clear hfz12_1
  try clear hfz14_0
  try clear hfz14_1
  try clear hfz19_0
  try clear hfz19_1
  try clear hfz21_0
  try clear hfz21_1
  try clear hfz24_0
  try clear hfz24_1
  try clear hfz6_0
  try clear hfz6_1
  obtain ⟨kq, x24_3, rfl, HA, HJ3, aa, ab, ac, HB⟩ := hcut
  cases kq with
  | zero => exact absurd HA.out (by simp [whirligiglaw01_AddrHalves.j0])
  | succ bb =>
   have H := HA.out
   clear HA
   simp only [whirligiglaw01_AddrHalves.j0] at H
   by_cases c26 : x24_3 = true
   ·subst c26
    have H1 := H
    rw [if_pos rfl] at H1
    clear H
    have H := H1
    clear H1
    replace H := Option.bind_eq_some_iff.mp H
    obtain ⟨t351, A270, H⟩ := H
    (try dsimp only at H)
    have bj := Aside0.mk A270
    clear A270
    by_cases bc : ((t347 == 1) == (!t351)) = true
    ·rw [if_pos bc] at H
     have c28b0 : ((t347 == 1) == (!t351)) = true := bc
     (try (have c28b1 : decide ((t347 == 1) = (!t351)) = true := by simpa using bc))
     (try (have c28b2 : ((t347 == 1) == (!t351)) = true := by simpa using bc))
     clear bc
     replace H := Option.bind_eq_some_iff.mp H
     obtain ⟨t352, A290, H⟩ := H
     (try dsimp only at H)
     have bk := Aside0.mk A290
     clear A290
     by_cases c30 : t352 = true
     ·subst c30
      have H1 := H
      rw [if_pos rfl] at H1
      clear H
      have H := H1
      clear H1
      by_cases bd : ((t347 == 5) == (al == 32)) = true
      ·rw [if_pos bd] at H
       have c31b0 : ((t347 == 5) == (al == 32)) = true := bd
       (try (have c31b1 : decide ((t347 == 5) = (al == 32)) = true := by simpa using bd))
       (try (have c31b2 : ((t347 == 5) == (al == 32)) = true := by simpa using bd))
       clear bd
       by_cases be : (t343 == 0 && (t344 == 0)) = true
       ·rw [if_pos be] at H
        have c32b0 : (t343 == 0 && (t344 == 0)) = true := be
        (try (have c32b1 : decide (t343 = 0 && (t344 == 0)) = true := by simpa using be))
        (try (have c32b2 : (t343 == 0 && (t344 == 0)) = true := by simpa using be))
        clear be
        by_cases bf : (t345 == t343 && (t346 == t344)) = true
        ·rw [if_pos bf] at H
         have c33b0 : (t345 == t343 && (t346 == t344)) = true := bf
         (try (have c33b1 : decide (t345 = t343 && (t346 == t344)) = true := by simpa using bf))
         (try (have c33b2 : (t345 == t343 && (t346 == t344)) = true := by simpa using bf))
         clear bf
         replace H := Option.bind_eq_some_iff.mp H
         obtain ⟨t353, A340, H⟩ := H
         replace H : (some t353) = some r := H
         have A34 := Aside0.mk A340
         clear A340
         obtain rfl := Option.some.inj H
         have hnb35 := aq.out
         have hnc35 := av.out
         have hnb36 := ar.out
         have hnc36 := aw.out
         have hcz37_0 : wc.cell? ⟨af, 0, none⟩ = some (.int .u32 am) := (blk_cell aa.out 0).trans rfl
         have hcz37_1 : wc.cell? ⟨af, 1, none⟩ = some (.int .i64 al) := (blk_cell aa.out 1).trans rfl
         have hfz37_0 := blk_frozen aa.out 0
         have hfz37_1 := blk_frozen aa.out 1
         go_wp2_with (first | ((with_reducible refine gate_callee (f := 27) rfl ?_); refine goesL_ (some 28) rfl rfl Try.func27 (by kernel_rfl) rfl #[.agg #[.int .u32 am, .int .i64 al]] rfl (by (try simp only [List.map_toArray, List.map_cons, List.map_nil]); first | done | rfl) ?_; (with_reducible refine (addr_May.calls am al t351 _ bj.out).mono ?_); rintro e w38 ⟨rfl, hb⟩; refine ⟨_, rfl, ?_⟩; replace aa := Aside0.mk (ka6e7.q aa.out hb rfl); replace ab := Aside0.mk (ka6e7.q ab.out hb rfl); replace ac := Aside0.mk (ka6e7.q ac.out hb rfl); replace HB := Aside0.mk (below_step (by repeat (first | (with_reducible first | exact HB.out | apply below_alloc | apply pw_below_drewN | apply below_drew1 | refine below_set ?_ ag.out | refine below_set ?_ ah.out | refine below_set ?_ ai.out) | exact HB.out)) hb); (try clear hb); (try clear a5); (try clear hk); (try clear hi); have hcz39_0 : w38.cell? ⟨af, 0, none⟩ = some (.int .u32 am) := (blk_cell aa.out 0).trans rfl; have hcz39_1 : w38.cell? ⟨af, 1, none⟩ = some (.int .i64 al) := (blk_cell aa.out 1).trans rfl; have hfz39_0 := blk_frozen aa.out 0; have hfz39_1 := blk_frozen aa.out 1) | (go_at_call 27; (with_reducible refine (addr_May.calls am al true _ bk.out).mono ?_); rintro e w40 ⟨rfl, hb⟩; replace aa := Aside0.mk (ka6e7.q aa.out hb rfl); replace ab := Aside0.mk (ka6e7.q ab.out hb rfl); replace ac := Aside0.mk (ka6e7.q ac.out hb rfl); replace HB := Aside0.mk (below_step (by repeat (first | (with_reducible first | exact HB.out | apply below_alloc | apply pw_below_drewN | apply below_drew1 | refine below_set ?_ ag.out | refine below_set ?_ ah.out | refine below_set ?_ ai.out) | exact HB.out)) hb); (try clear hb); (try clear a5); (try clear hk); (try clear hi); have hcz41_0 : w40.cell? ⟨af, 0, none⟩ = some (.int .u32 am) := (blk_cell aa.out 0).trans rfl; have hcz41_1 : w40.cell? ⟨af, 1, none⟩ = some (.int .i64 al) := (blk_cell aa.out 1).trans rfl; have hfz41_0 := blk_frozen aa.out 0; have hfz41_1 := blk_frozen aa.out 1; have hnb42 := ax.out; have hnc42 := ay.out; have hcz43_0 : w40.cell? ⟨aj, 0, none⟩ = some (.int .u32 t343) := (blk_cell ab.out 0).trans rfl; have hcz43_1 : w40.cell? ⟨aj, 1, none⟩ = some (.int .i64 t344) := (blk_cell ab.out 1).trans rfl; have hfz43_0 := blk_frozen ab.out 0; have hfz43_1 := blk_frozen ab.out 1; have hcz44_0 : w40.cell? ⟨ak, 0, none⟩ = some (.int .u32 t345) := (blk_cell ac.out 0).trans rfl; have hcz44_1 : w40.cell? ⟨ak, 1, none⟩ = some (.int .i64 t346) := (blk_cell ac.out 1).trans rfl; have hfz44_0 := blk_frozen ac.out 0; have hfz44_1 := blk_frozen ac.out 1) | (go_at_call 8; (with_reducible refine (whirligiglaw01_lives.calls bb  t353 _ A34.out).mono ?_); rintro e w45 ⟨rfl, hb⟩; replace aa := Aside0.mk (ka6e7.q aa.out hb rfl); replace ab := Aside0.mk (ka6e7.q ab.out hb rfl); replace ac := Aside0.mk (ka6e7.q ac.out hb rfl); replace HB := Aside0.mk (below_step (by repeat (first | (with_reducible first | exact HB.out | apply below_alloc | apply pw_below_drewN | apply below_drew1 | refine below_set ?_ ag.out | refine below_set ?_ ah.out | refine below_set ?_ ai.out) | exact HB.out)) hb); (try clear hb); (try clear a5); (try clear hk); (try clear hi)))
         go_ret
         exact ⟨by first | rfl | (simp [errW_none, errW_some] <;> rfl) | (simp [*, errW_none, errW_some] <;> rfl), by repeat (first | (with_reducible first | exact HB.out | apply below_alloc | apply pw_below_drewN | apply below_drew1 | refine below_set ?_ ag.out | refine below_set ?_ ah.out | refine below_set ?_ ai.out) | exact HB.out)⟩
        ·rw [if_neg bf] at H
         have c33b0 : (t345 == t343 && (t346 == t344)) = false := by simpa using bf
         (try (have c33b1 : decide (t345 = t343 && (t346 == t344)) = false := by simpa using bf))
         (try (have c33b2 : (t345 == t343 && (t346 == t344)) = false := by simpa using bf))
         (try (have c33b3 : ¬ (t345 = t343 && (t346 == t344)) := by simpa using bf))
         clear bf
         obtain rfl := Option.some.inj H
         have hnb46 := aq.out
         have hnc46 := av.out
         have hnb47 := ar.out
         have hnc47 := aw.out
         have hcz48_0 : wc.cell? ⟨af, 0, none⟩ = some (.int .u32 am) := (blk_cell aa.out 0).trans rfl
         have hcz48_1 : wc.cell? ⟨af, 1, none⟩ = some (.int .i64 al) := (blk_cell aa.out 1).trans rfl
         have hfz48_0 := blk_frozen aa.out 0
         have hfz48_1 := blk_frozen aa.out 1
         go_wp2_with (first | ((with_reducible refine gate_callee (f := 27) rfl ?_); refine goesL_ (some 28) rfl rfl Try.func27 (by kernel_rfl) rfl #[.agg #[.int .u32 am, .int .i64 al]] rfl (by (try simp only [List.map_toArray, List.map_cons, List.map_nil]); first | done | rfl) ?_; (with_reducible refine (addr_May.calls am al t351 _ bj.out).mono ?_); rintro e w49 ⟨rfl, hb⟩; refine ⟨_, rfl, ?_⟩; replace aa := Aside0.mk (ka6e7.q aa.out hb rfl); replace ab := Aside0.mk (ka6e7.q ab.out hb rfl); replace ac := Aside0.mk (ka6e7.q ac.out hb rfl); replace HB := Aside0.mk (below_step (by repeat (first | (with_reducible first | exact HB.out | apply below_alloc | apply pw_below_drewN | apply below_drew1 | refine below_set ?_ ag.out | refine below_set ?_ ah.out | refine below_set ?_ ai.out) | exact HB.out)) hb); (try clear hb); (try clear a5); (try clear hk); (try clear hi); have hcz50_0 : w49.cell? ⟨af, 0, none⟩ = some (.int .u32 am) := (blk_cell aa.out 0).trans rfl; have hcz50_1 : w49.cell? ⟨af, 1, none⟩ = some (.int .i64 al) := (blk_cell aa.out 1).trans rfl; have hfz50_0 := blk_frozen aa.out 0; have hfz50_1 := blk_frozen aa.out 1) | (go_at_call 27; (with_reducible refine (addr_May.calls am al true _ bk.out).mono ?_); rintro e w51 ⟨rfl, hb⟩; replace aa := Aside0.mk (ka6e7.q aa.out hb rfl); replace ab := Aside0.mk (ka6e7.q ab.out hb rfl); replace ac := Aside0.mk (ka6e7.q ac.out hb rfl); replace HB := Aside0.mk (below_step (by repeat (first | (with_reducible first | exact HB.out | apply below_alloc | apply pw_below_drewN | apply below_drew1 | refine below_set ?_ ag.out | refine below_set ?_ ah.out | refine below_set ?_ ai.out) | exact HB.out)) hb); (try clear hb); (try clear a5); (try clear hk); (try clear hi); have hcz52_0 : w51.cell? ⟨af, 0, none⟩ = some (.int .u32 am) := (blk_cell aa.out 0).trans rfl; have hcz52_1 : w51.cell? ⟨af, 1, none⟩ = some (.int .i64 al) := (blk_cell aa.out 1).trans rfl; have hfz52_0 := blk_frozen aa.out 0; have hfz52_1 := blk_frozen aa.out 1; have hnb53 := ax.out; have hnc53 := ay.out; have hcz54_0 : w51.cell? ⟨aj, 0, none⟩ = some (.int .u32 t343) := (blk_cell ab.out 0).trans rfl; have hcz54_1 : w51.cell? ⟨aj, 1, none⟩ = some (.int .i64 t344) := (blk_cell ab.out 1).trans rfl; have hfz54_0 := blk_frozen ab.out 0; have hfz54_1 := blk_frozen ab.out 1; have hcz55_0 : w51.cell? ⟨ak, 0, none⟩ = some (.int .u32 t345) := (blk_cell ac.out 0).trans rfl; have hcz55_1 : w51.cell? ⟨ak, 1, none⟩ = some (.int .i64 t346) := (blk_cell ac.out 1).trans rfl; have hfz55_0 := blk_frozen ac.out 0; have hfz55_1 := blk_frozen ac.out 1))
         go_ret
         exact ⟨by first | rfl | (simp [errW_none, errW_some] <;> rfl) | (simp [*, errW_none, errW_some] <;> rfl), by repeat (first | (with_reducible first | exact HB.out | apply below_alloc | apply pw_below_drewN | apply below_drew1 | refine below_set ?_ ag.out | refine below_set ?_ ah.out | refine below_set ?_ ai.out) | exact HB.out)⟩
       ·rw [if_neg be] at H
        have c32b0 : (t343 == 0 && (t344 == 0)) = false := by simpa using be
        (try (have c32b1 : decide (t343 = 0 && (t344 == 0)) = false := by simpa using be))
        (try (have c32b2 : (t343 == 0 && (t344 == 0)) = false := by simpa using be))
        (try (have c32b3 : ¬ (t343 = 0 && (t344 == 0)) := by simpa using be))
        clear be
        obtain rfl := Option.some.inj H
        have hnb56 := aq.out
        have hnc56 := av.out
        have hnb57 := ar.out
        have hnc57 := aw.out
        have hcz58_0 : wc.cell? ⟨af, 0, none⟩ = some (.int .u32 am) := (blk_cell aa.out 0).trans rfl
        have hcz58_1 : wc.cell? ⟨af, 1, none⟩ = some (.int .i64 al) := (blk_cell aa.out 1).trans rfl
        have hfz58_0 := blk_frozen aa.out 0
        have hfz58_1 := blk_frozen aa.out 1
        go_wp2_with (first | ((with_reducible refine gate_callee (f := 27) rfl ?_); refine goesL_ (some 28) rfl rfl Try.func27 (by kernel_rfl) rfl #[.agg #[.int .u32 am, .int .i64 al]] rfl (by (try simp only [List.map_toArray, List.map_cons, List.map_nil]); first | done | rfl) ?_; (with_reducible refine (addr_May.calls am al t351 _ bj.out).mono ?_); rintro e w59 ⟨rfl, hb⟩; refine ⟨_, rfl, ?_⟩; replace aa := Aside0.mk (ka6e7.q aa.out hb rfl); replace ab := Aside0.mk (ka6e7.q ab.out hb rfl); replace ac := Aside0.mk (ka6e7.q ac.out hb rfl); replace HB := Aside0.mk (below_step (by repeat (first | (with_reducible first | exact HB.out | apply below_alloc | apply pw_below_drewN | apply below_drew1 | refine below_set ?_ ag.out | refine below_set ?_ ah.out | refine below_set ?_ ai.out) | exact HB.out)) hb); (try clear hb); (try clear a5); (try clear hk); (try clear hi); have hcz60_0 : w59.cell? ⟨af, 0, none⟩ = some (.int .u32 am) := (blk_cell aa.out 0).trans rfl; have hcz60_1 : w59.cell? ⟨af, 1, none⟩ = some (.int .i64 al) := (blk_cell aa.out 1).trans rfl; have hfz60_0 := blk_frozen aa.out 0; have hfz60_1 := blk_frozen aa.out 1) | (go_at_call 27; (with_reducible refine (addr_May.calls am al true _ bk.out).mono ?_); rintro e w61 ⟨rfl, hb⟩; replace aa := Aside0.mk (ka6e7.q aa.out hb rfl); replace ab := Aside0.mk (ka6e7.q ab.out hb rfl); replace ac := Aside0.mk (ka6e7.q ac.out hb rfl); replace HB := Aside0.mk (below_step (by repeat (first | (with_reducible first | exact HB.out | apply below_alloc | apply pw_below_drewN | apply below_drew1 | refine below_set ?_ ag.out | refine below_set ?_ ah.out | refine below_set ?_ ai.out) | exact HB.out)) hb); (try clear hb); (try clear a5); (try clear hk); (try clear hi); have hcz62_0 : w61.cell? ⟨af, 0, none⟩ = some (.int .u32 am) := (blk_cell aa.out 0).trans rfl; have hcz62_1 : w61.cell? ⟨af, 1, none⟩ = some (.int .i64 al) := (blk_cell aa.out 1).trans rfl; have hfz62_0 := blk_frozen aa.out 0; have hfz62_1 := blk_frozen aa.out 1; have hnb63 := ax.out; have hnc63 := ay.out; have hcz64_0 : w61.cell? ⟨aj, 0, none⟩ = some (.int .u32 t343) := (blk_cell ab.out 0).trans rfl; have hcz64_1 : w61.cell? ⟨aj, 1, none⟩ = some (.int .i64 t344) := (blk_cell ab.out 1).trans rfl; have hfz64_0 := blk_frozen ab.out 0; have hfz64_1 := blk_frozen ab.out 1))
        go_ret
        exact ⟨by first | rfl | (simp [errW_none, errW_some] <;> rfl) | (simp [*, errW_none, errW_some] <;> rfl), by repeat (first | (with_reducible first | exact HB.out | apply below_alloc | apply pw_below_drewN | apply below_drew1 | refine below_set ?_ ag.out | refine below_set ?_ ah.out | refine below_set ?_ ai.out) | exact HB.out)⟩
      ·rw [if_neg bd] at H
       have c31b0 : ((t347 == 5) == (al == 32)) = false := by simpa using bd
       (try (have c31b1 : decide ((t347 == 5) = (al == 32)) = false := by simpa using bd))
       (try (have c31b2 : ((t347 == 5) == (al == 32)) = false := by simpa using bd))
       (try (have c31b3 : ¬ ((t347 == 5) = (al == 32)) := by simpa using bd))
       clear bd
       obtain rfl := Option.some.inj H
       have hnb65 := aq.out
       have hnc65 := av.out
       have hnb66 := ar.out
       have hnc66 := aw.out
       have hcz67_0 : wc.cell? ⟨af, 0, none⟩ = some (.int .u32 am) := (blk_cell aa.out 0).trans rfl
       have hcz67_1 : wc.cell? ⟨af, 1, none⟩ = some (.int .i64 al) := (blk_cell aa.out 1).trans rfl
       have hfz67_0 := blk_frozen aa.out 0
       have hfz67_1 := blk_frozen aa.out 1
       go_wp2_with (first | ((with_reducible refine gate_callee (f := 27) rfl ?_); refine goesL_ (some 28) rfl rfl Try.func27 (by kernel_rfl) rfl #[.agg #[.int .u32 am, .int .i64 al]] rfl (by (try simp only [List.map_toArray, List.map_cons, List.map_nil]); first | done | rfl) ?_; (with_reducible refine (addr_May.calls am al t351 _ bj.out).mono ?_); rintro e w68 ⟨rfl, hb⟩; refine ⟨_, rfl, ?_⟩; replace aa := Aside0.mk (ka6e7.q aa.out hb rfl); replace ab := Aside0.mk (ka6e7.q ab.out hb rfl); replace ac := Aside0.mk (ka6e7.q ac.out hb rfl); replace HB := Aside0.mk (below_step (by repeat (first | (with_reducible first | exact HB.out | apply below_alloc | apply pw_below_drewN | apply below_drew1 | refine below_set ?_ ag.out | refine below_set ?_ ah.out | refine below_set ?_ ai.out) | exact HB.out)) hb); (try clear hb); (try clear a5); (try clear hk); (try clear hi); have hcz69_0 : w68.cell? ⟨af, 0, none⟩ = some (.int .u32 am) := (blk_cell aa.out 0).trans rfl; have hcz69_1 : w68.cell? ⟨af, 1, none⟩ = some (.int .i64 al) := (blk_cell aa.out 1).trans rfl; have hfz69_0 := blk_frozen aa.out 0; have hfz69_1 := blk_frozen aa.out 1) | (go_at_call 27; (with_reducible refine (addr_May.calls am al true _ bk.out).mono ?_); rintro e w70 ⟨rfl, hb⟩; replace aa := Aside0.mk (ka6e7.q aa.out hb rfl); replace ab := Aside0.mk (ka6e7.q ab.out hb rfl); replace ac := Aside0.mk (ka6e7.q ac.out hb rfl); replace HB := Aside0.mk (below_step (by repeat (first | (with_reducible first | exact HB.out | apply below_alloc | apply pw_below_drewN | apply below_drew1 | refine below_set ?_ ag.out | refine below_set ?_ ah.out | refine below_set ?_ ai.out) | exact HB.out)) hb); (try clear hb); (try clear a5); (try clear hk); (try clear hi); have hcz71_0 : w70.cell? ⟨af, 0, none⟩ = some (.int .u32 am) := (blk_cell aa.out 0).trans rfl; have hcz71_1 : w70.cell? ⟨af, 1, none⟩ = some (.int .i64 al) := (blk_cell aa.out 1).trans rfl; have hfz71_0 := blk_frozen aa.out 0; have hfz71_1 := blk_frozen aa.out 1))
       go_ret
       exact ⟨by first | rfl | (simp [errW_none, errW_some] <;> rfl) | (simp [*, errW_none, errW_some] <;> rfl), by repeat (first | (with_reducible first | exact HB.out | apply below_alloc | apply pw_below_drewN | apply below_drew1 | refine below_set ?_ ag.out | refine below_set ?_ ah.out | refine below_set ?_ ai.out) | exact HB.out)⟩
     ·replace c30 := Bool.eq_false_iff.mpr c30
      subst c30
      have H1 := H
      rw [if_neg (show ¬ (false = true) by decide)] at H1
      clear H
      have H := H1
      clear H1
      by_cases bg : ((t347 == 5) == false) = true
      ·rw [if_pos bg] at H
       have c72b0 : ((t347 == 5) == false) = true := bg
       (try (have c72b1 : decide ((t347 == 5) = false) = true := by simpa using bg))
       (try (have c72b2 : ((t347 == 5) == false) = true := by simpa using bg))
       clear bg
       by_cases bh : (t343 == 0 && (t344 == 0)) = true
       ·rw [if_pos bh] at H
        have c73b0 : (t343 == 0 && (t344 == 0)) = true := bh
        (try (have c73b1 : decide (t343 = 0 && (t344 == 0)) = true := by simpa using bh))
        (try (have c73b2 : (t343 == 0 && (t344 == 0)) = true := by simpa using bh))
        clear bh
        by_cases bi : (t345 == t343 && (t346 == t344)) = true
        ·rw [if_pos bi] at H
         have c74b0 : (t345 == t343 && (t346 == t344)) = true := bi
         (try (have c74b1 : decide (t345 = t343 && (t346 == t344)) = true := by simpa using bi))
         (try (have c74b2 : (t345 == t343 && (t346 == t344)) = true := by simpa using bi))
         clear bi
         replace H := Option.bind_eq_some_iff.mp H
         obtain ⟨t354, A750, H⟩ := H
         replace H : (some t354) = some r := H
         have A75 := Aside0.mk A750
         clear A750
         obtain rfl := Option.some.inj H
         have hnb76 := aq.out
         have hnc76 := av.out
         have hnb77 := ar.out
         have hnc77 := aw.out
         have hcz78_0 : wc.cell? ⟨af, 0, none⟩ = some (.int .u32 am) := (blk_cell aa.out 0).trans rfl
         have hcz78_1 : wc.cell? ⟨af, 1, none⟩ = some (.int .i64 al) := (blk_cell aa.out 1).trans rfl
         have hfz78_0 := blk_frozen aa.out 0
         have hfz78_1 := blk_frozen aa.out 1
         go_wp2_with (first | ((with_reducible refine gate_callee (f := 27) rfl ?_); refine goesL_ (some 28) rfl rfl Try.func27 (by kernel_rfl) rfl #[.agg #[.int .u32 am, .int .i64 al]] rfl (by (try simp only [List.map_toArray, List.map_cons, List.map_nil]); first | done | rfl) ?_; (with_reducible refine (addr_May.calls am al t351 _ bj.out).mono ?_); rintro e w79 ⟨rfl, hb⟩; refine ⟨_, rfl, ?_⟩; replace aa := Aside0.mk (ka6e7.q aa.out hb rfl); replace ab := Aside0.mk (ka6e7.q ab.out hb rfl); replace ac := Aside0.mk (ka6e7.q ac.out hb rfl); replace HB := Aside0.mk (below_step (by repeat (first | (with_reducible first | exact HB.out | apply below_alloc | apply pw_below_drewN | apply below_drew1 | refine below_set ?_ ag.out | refine below_set ?_ ah.out | refine below_set ?_ ai.out) | exact HB.out)) hb); (try clear hb); (try clear a5); (try clear hk); (try clear hi); have hcz80_0 : w79.cell? ⟨af, 0, none⟩ = some (.int .u32 am) := (blk_cell aa.out 0).trans rfl; have hcz80_1 : w79.cell? ⟨af, 1, none⟩ = some (.int .i64 al) := (blk_cell aa.out 1).trans rfl; have hfz80_0 := blk_frozen aa.out 0; have hfz80_1 := blk_frozen aa.out 1) | (go_at_call 27; (with_reducible refine (addr_May.calls am al false _ bk.out).mono ?_); rintro e w81 ⟨rfl, hb⟩; replace aa := Aside0.mk (ka6e7.q aa.out hb rfl); replace ab := Aside0.mk (ka6e7.q ab.out hb rfl); replace ac := Aside0.mk (ka6e7.q ac.out hb rfl); replace HB := Aside0.mk (below_step (by repeat (first | (with_reducible first | exact HB.out | apply below_alloc | apply pw_below_drewN | apply below_drew1 | refine below_set ?_ ag.out | refine below_set ?_ ah.out | refine below_set ?_ ai.out) | exact HB.out)) hb); (try clear hb); (try clear a5); (try clear hk); (try clear hi); have hnb82 := ax.out; have hnc82 := ay.out; have hcz83_0 : w81.cell? ⟨aj, 0, none⟩ = some (.int .u32 t343) := (blk_cell ab.out 0).trans rfl; have hcz83_1 : w81.cell? ⟨aj, 1, none⟩ = some (.int .i64 t344) := (blk_cell ab.out 1).trans rfl; have hfz83_0 := blk_frozen ab.out 0; have hfz83_1 := blk_frozen ab.out 1; have hcz84_0 : w81.cell? ⟨ak, 0, none⟩ = some (.int .u32 t345) := (blk_cell ac.out 0).trans rfl; have hcz84_1 : w81.cell? ⟨ak, 1, none⟩ = some (.int .i64 t346) := (blk_cell ac.out 1).trans rfl; have hfz84_0 := blk_frozen ac.out 0; have hfz84_1 := blk_frozen ac.out 1) | (go_at_call 8; (with_reducible refine (whirligiglaw01_lives.calls bb  t354 _ A75.out).mono ?_); rintro e w85 ⟨rfl, hb⟩; replace aa := Aside0.mk (ka6e7.q aa.out hb rfl); replace ab := Aside0.mk (ka6e7.q ab.out hb rfl); replace ac := Aside0.mk (ka6e7.q ac.out hb rfl); replace HB := Aside0.mk (below_step (by repeat (first | (with_reducible first | exact HB.out | apply below_alloc | apply pw_below_drewN | apply below_drew1 | refine below_set ?_ ag.out | refine below_set ?_ ah.out | refine below_set ?_ ai.out) | exact HB.out)) hb); (try clear hb); (try clear a5); (try clear hk); (try clear hi)))
         go_ret
         exact ⟨by first | rfl | (simp [errW_none, errW_some] <;> rfl) | (simp [*, errW_none, errW_some] <;> rfl), by repeat (first | (with_reducible first | exact HB.out | apply below_alloc | apply pw_below_drewN | apply below_drew1 | refine below_set ?_ ag.out | refine below_set ?_ ah.out | refine below_set ?_ ai.out) | exact HB.out)⟩
        ·rw [if_neg bi] at H
         have c74b0 : (t345 == t343 && (t346 == t344)) = false := by simpa using bi
         (try (have c74b1 : decide (t345 = t343 && (t346 == t344)) = false := by simpa using bi))
         (try (have c74b2 : (t345 == t343 && (t346 == t344)) = false := by simpa using bi))
         (try (have c74b3 : ¬ (t345 = t343 && (t346 == t344)) := by simpa using bi))
         clear bi
         obtain rfl := Option.some.inj H
         have hnb86 := aq.out
         have hnc86 := av.out
         have hnb87 := ar.out
         have hnc87 := aw.out
         have hcz88_0 : wc.cell? ⟨af, 0, none⟩ = some (.int .u32 am) := (blk_cell aa.out 0).trans rfl
         have hcz88_1 : wc.cell? ⟨af, 1, none⟩ = some (.int .i64 al) := (blk_cell aa.out 1).trans rfl
         have hfz88_0 := blk_frozen aa.out 0
         have hfz88_1 := blk_frozen aa.out 1
         go_wp2_with (first | ((with_reducible refine gate_callee (f := 27) rfl ?_); refine goesL_ (some 28) rfl rfl Try.func27 (by kernel_rfl) rfl #[.agg #[.int .u32 am, .int .i64 al]] rfl (by (try simp only [List.map_toArray, List.map_cons, List.map_nil]); first | done | rfl) ?_; (with_reducible refine (addr_May.calls am al t351 _ bj.out).mono ?_); rintro e w89 ⟨rfl, hb⟩; refine ⟨_, rfl, ?_⟩; replace aa := Aside0.mk (ka6e7.q aa.out hb rfl); replace ab := Aside0.mk (ka6e7.q ab.out hb rfl); replace ac := Aside0.mk (ka6e7.q ac.out hb rfl); replace HB := Aside0.mk (below_step (by repeat (first | (with_reducible first | exact HB.out | apply below_alloc | apply pw_below_drewN | apply below_drew1 | refine below_set ?_ ag.out | refine below_set ?_ ah.out | refine below_set ?_ ai.out) | exact HB.out)) hb); (try clear hb); (try clear a5); (try clear hk); (try clear hi); have hcz90_0 : w89.cell? ⟨af, 0, none⟩ = some (.int .u32 am) := (blk_cell aa.out 0).trans rfl; have hcz90_1 : w89.cell? ⟨af, 1, none⟩ = some (.int .i64 al) := (blk_cell aa.out 1).trans rfl; have hfz90_0 := blk_frozen aa.out 0; have hfz90_1 := blk_frozen aa.out 1) | (go_at_call 27; (with_reducible refine (addr_May.calls am al false _ bk.out).mono ?_); rintro e w91 ⟨rfl, hb⟩; replace aa := Aside0.mk (ka6e7.q aa.out hb rfl); replace ab := Aside0.mk (ka6e7.q ab.out hb rfl); replace ac := Aside0.mk (ka6e7.q ac.out hb rfl); replace HB := Aside0.mk (below_step (by repeat (first | (with_reducible first | exact HB.out | apply below_alloc | apply pw_below_drewN | apply below_drew1 | refine below_set ?_ ag.out | refine below_set ?_ ah.out | refine below_set ?_ ai.out) | exact HB.out)) hb); (try clear hb); (try clear a5); (try clear hk); (try clear hi); have hnb92 := ax.out; have hnc92 := ay.out; have hcz93_0 : w91.cell? ⟨aj, 0, none⟩ = some (.int .u32 t343) := (blk_cell ab.out 0).trans rfl; have hcz93_1 : w91.cell? ⟨aj, 1, none⟩ = some (.int .i64 t344) := (blk_cell ab.out 1).trans rfl; have hfz93_0 := blk_frozen ab.out 0; have hfz93_1 := blk_frozen ab.out 1; have hcz94_0 : w91.cell? ⟨ak, 0, none⟩ = some (.int .u32 t345) := (blk_cell ac.out 0).trans rfl; have hcz94_1 : w91.cell? ⟨ak, 1, none⟩ = some (.int .i64 t346) := (blk_cell ac.out 1).trans rfl; have hfz94_0 := blk_frozen ac.out 0; have hfz94_1 := blk_frozen ac.out 1))
         go_ret
         exact ⟨by first | rfl | (simp [errW_none, errW_some] <;> rfl) | (simp [*, errW_none, errW_some] <;> rfl), by repeat (first | (with_reducible first | exact HB.out | apply below_alloc | apply pw_below_drewN | apply below_drew1 | refine below_set ?_ ag.out | refine below_set ?_ ah.out | refine below_set ?_ ai.out) | exact HB.out)⟩
       ·rw [if_neg bh] at H
        have c73b0 : (t343 == 0 && (t344 == 0)) = false := by simpa using bh
        (try (have c73b1 : decide (t343 = 0 && (t344 == 0)) = false := by simpa using bh))
        (try (have c73b2 : (t343 == 0 && (t344 == 0)) = false := by simpa using bh))
        (try (have c73b3 : ¬ (t343 = 0 && (t344 == 0)) := by simpa using bh))
        clear bh
        obtain rfl := Option.some.inj H
        have hnb95 := aq.out
        have hnc95 := av.out
        have hnb96 := ar.out
        have hnc96 := aw.out
        have hcz97_0 : wc.cell? ⟨af, 0, none⟩ = some (.int .u32 am) := (blk_cell aa.out 0).trans rfl
        have hcz97_1 : wc.cell? ⟨af, 1, none⟩ = some (.int .i64 al) := (blk_cell aa.out 1).trans rfl
        have hfz97_0 := blk_frozen aa.out 0
        have hfz97_1 := blk_frozen aa.out 1
        go_wp2_with (first | ((with_reducible refine gate_callee (f := 27) rfl ?_); refine goesL_ (some 28) rfl rfl Try.func27 (by kernel_rfl) rfl #[.agg #[.int .u32 am, .int .i64 al]] rfl (by (try simp only [List.map_toArray, List.map_cons, List.map_nil]); first | done | rfl) ?_; (with_reducible refine (addr_May.calls am al t351 _ bj.out).mono ?_); rintro e w98 ⟨rfl, hb⟩; refine ⟨_, rfl, ?_⟩; replace aa := Aside0.mk (ka6e7.q aa.out hb rfl); replace ab := Aside0.mk (ka6e7.q ab.out hb rfl); replace ac := Aside0.mk (ka6e7.q ac.out hb rfl); replace HB := Aside0.mk (below_step (by repeat (first | (with_reducible first | exact HB.out | apply below_alloc | apply pw_below_drewN | apply below_drew1 | refine below_set ?_ ag.out | refine below_set ?_ ah.out | refine below_set ?_ ai.out) | exact HB.out)) hb); (try clear hb); (try clear a5); (try clear hk); (try clear hi); have hcz99_0 : w98.cell? ⟨af, 0, none⟩ = some (.int .u32 am) := (blk_cell aa.out 0).trans rfl; have hcz99_1 : w98.cell? ⟨af, 1, none⟩ = some (.int .i64 al) := (blk_cell aa.out 1).trans rfl; have hfz99_0 := blk_frozen aa.out 0; have hfz99_1 := blk_frozen aa.out 1) | (go_at_call 27; (with_reducible refine (addr_May.calls am al false _ bk.out).mono ?_); rintro e w100 ⟨rfl, hb⟩; replace aa := Aside0.mk (ka6e7.q aa.out hb rfl); replace ab := Aside0.mk (ka6e7.q ab.out hb rfl); replace ac := Aside0.mk (ka6e7.q ac.out hb rfl); replace HB := Aside0.mk (below_step (by repeat (first | (with_reducible first | exact HB.out | apply below_alloc | apply pw_below_drewN | apply below_drew1 | refine below_set ?_ ag.out | refine below_set ?_ ah.out | refine below_set ?_ ai.out) | exact HB.out)) hb); (try clear hb); (try clear a5); (try clear hk); (try clear hi); have hnb101 := ax.out; have hnc101 := ay.out; have hcz102_0 : w100.cell? ⟨aj, 0, none⟩ = some (.int .u32 t343) := (blk_cell ab.out 0).trans rfl; have hcz102_1 : w100.cell? ⟨aj, 1, none⟩ = some (.int .i64 t344) := (blk_cell ab.out 1).trans rfl; have hfz102_0 := blk_frozen ab.out 0; have hfz102_1 := blk_frozen ab.out 1))
        go_ret
        exact ⟨by first | rfl | (simp [errW_none, errW_some] <;> rfl) | (simp [*, errW_none, errW_some] <;> rfl), by repeat (first | (with_reducible first | exact HB.out | apply below_alloc | apply pw_below_drewN | apply below_drew1 | refine below_set ?_ ag.out | refine below_set ?_ ah.out | refine below_set ?_ ai.out) | exact HB.out)⟩
      ·rw [if_neg bg] at H
       have c72b0 : ((t347 == 5) == false) = false := by simpa using bg
       (try (have c72b1 : decide ((t347 == 5) = false) = false := by simpa using bg))
       (try (have c72b2 : ((t347 == 5) == false) = false := by simpa using bg))
       (try (have c72b3 : ¬ ((t347 == 5) = false) := by simpa using bg))
       clear bg
       obtain rfl := Option.some.inj H
       have hnb103 := aq.out
       have hnc103 := av.out
       have hnb104 := ar.out
       have hnc104 := aw.out
       have hcz105_0 : wc.cell? ⟨af, 0, none⟩ = some (.int .u32 am) := (blk_cell aa.out 0).trans rfl
       have hcz105_1 : wc.cell? ⟨af, 1, none⟩ = some (.int .i64 al) := (blk_cell aa.out 1).trans rfl
       have hfz105_0 := blk_frozen aa.out 0
       have hfz105_1 := blk_frozen aa.out 1
       go_wp2_with (first | ((with_reducible refine gate_callee (f := 27) rfl ?_); refine goesL_ (some 28) rfl rfl Try.func27 (by kernel_rfl) rfl #[.agg #[.int .u32 am, .int .i64 al]] rfl (by (try simp only [List.map_toArray, List.map_cons, List.map_nil]); first | done | rfl) ?_; (with_reducible refine (addr_May.calls am al t351 _ bj.out).mono ?_); rintro e w106 ⟨rfl, hb⟩; refine ⟨_, rfl, ?_⟩; replace aa := Aside0.mk (ka6e7.q aa.out hb rfl); replace ab := Aside0.mk (ka6e7.q ab.out hb rfl); replace ac := Aside0.mk (ka6e7.q ac.out hb rfl); replace HB := Aside0.mk (below_step (by repeat (first | (with_reducible first | exact HB.out | apply below_alloc | apply pw_below_drewN | apply below_drew1 | refine below_set ?_ ag.out | refine below_set ?_ ah.out | refine below_set ?_ ai.out) | exact HB.out)) hb); (try clear hb); (try clear a5); (try clear hk); (try clear hi); have hcz107_0 : w106.cell? ⟨af, 0, none⟩ = some (.int .u32 am) := (blk_cell aa.out 0).trans rfl; have hcz107_1 : w106.cell? ⟨af, 1, none⟩ = some (.int .i64 al) := (blk_cell aa.out 1).trans rfl; have hfz107_0 := blk_frozen aa.out 0; have hfz107_1 := blk_frozen aa.out 1) | (go_at_call 27; (with_reducible refine (addr_May.calls am al false _ bk.out).mono ?_); rintro e w108 ⟨rfl, hb⟩; replace aa := Aside0.mk (ka6e7.q aa.out hb rfl); replace ab := Aside0.mk (ka6e7.q ab.out hb rfl); replace ac := Aside0.mk (ka6e7.q ac.out hb rfl); replace HB := Aside0.mk (below_step (by repeat (first | (with_reducible first | exact HB.out | apply below_alloc | apply pw_below_drewN | apply below_drew1 | refine below_set ?_ ag.out | refine below_set ?_ ah.out | refine below_set ?_ ai.out) | exact HB.out)) hb); (try clear hb); (try clear a5); (try clear hk); (try clear hi)))
       go_ret
       exact ⟨by first | rfl | (simp [errW_none, errW_some] <;> rfl) | (simp [*, errW_none, errW_some] <;> rfl), by repeat (first | (with_reducible first | exact HB.out | apply below_alloc | apply pw_below_drewN | apply below_drew1 | refine below_set ?_ ag.out | refine below_set ?_ ah.out | refine below_set ?_ ai.out) | exact HB.out)⟩
    ·rw [if_neg bc] at H
     have c28b0 : ((t347 == 1) == (!t351)) = false := by simpa using bc
     (try (have c28b1 : decide ((t347 == 1) = (!t351)) = false := by simpa using bc))
     (try (have c28b2 : ((t347 == 1) == (!t351)) = false := by simpa using bc))
     (try (have c28b3 : ¬ ((t347 == 1) = (!t351)) := by simpa using bc))
     clear bc
     obtain rfl := Option.some.inj H
     have hnb109 := aq.out
     have hnc109 := av.out
     have hnb110 := ar.out
     have hnc110 := aw.out
     have hcz111_0 : wc.cell? ⟨af, 0, none⟩ = some (.int .u32 am) := (blk_cell aa.out 0).trans rfl
     have hcz111_1 : wc.cell? ⟨af, 1, none⟩ = some (.int .i64 al) := (blk_cell aa.out 1).trans rfl
     have hfz111_0 := blk_frozen aa.out 0
     have hfz111_1 := blk_frozen aa.out 1
     go_wp2_with (first | ((with_reducible refine gate_callee (f := 27) rfl ?_); refine goesL_ (some 28) rfl rfl Try.func27 (by kernel_rfl) rfl #[.agg #[.int .u32 am, .int .i64 al]] rfl (by (try simp only [List.map_toArray, List.map_cons, List.map_nil]); first | done | rfl) ?_; (with_reducible refine (addr_May.calls am al t351 _ bj.out).mono ?_); rintro e w112 ⟨rfl, hb⟩; refine ⟨_, rfl, ?_⟩; replace aa := Aside0.mk (ka6e7.q aa.out hb rfl); replace ab := Aside0.mk (ka6e7.q ab.out hb rfl); replace ac := Aside0.mk (ka6e7.q ac.out hb rfl); replace HB := Aside0.mk (below_step (by repeat (first | (with_reducible first | exact HB.out | apply below_alloc | apply pw_below_drewN | apply below_drew1 | refine below_set ?_ ag.out | refine below_set ?_ ah.out | refine below_set ?_ ai.out) | exact HB.out)) hb); (try clear hb); (try clear a5); (try clear hk); (try clear hi)))
     go_ret
     exact ⟨by first | rfl | (simp [errW_none, errW_some] <;> rfl) | (simp [*, errW_none, errW_some] <;> rfl), by repeat (first | (with_reducible first | exact HB.out | apply below_alloc | apply pw_below_drewN | apply below_drew1 | refine below_set ?_ ag.out | refine below_set ?_ ah.out | refine below_set ?_ ai.out) | exact HB.out)⟩
   ·replace c26 := Bool.eq_false_iff.mpr c26
    subst c26
    have H1 := H
    rw [if_neg (show ¬ (false = true) by decide)] at H1
    clear H
    have H := H1
    clear H1
    replace H := Option.bind_eq_some_iff.mp H
    obtain ⟨⟨t355, t356, t357⟩, A1130, H⟩ := H
    (try dsimp only at H)
    have a8 := Aside0.mk A1130
    clear A1130
    replace H := Option.bind_eq_some_iff.mp H
    obtain ⟨t359, A1140, H⟩ := H
    (try dsimp only at H)
    have a9 := Aside0.mk A1140
    clear A1140
    replace H := Option.bind_eq_some_iff.mp H
    obtain ⟨t360, A1150, H⟩ := H
    (try dsimp only at H)
    have ba := Aside0.mk A1150
    clear A1150
    by_cases c116 : t347 = 0
    ·rw [if_pos c116] at H
     have c116b0 : (t347 == 0) = true := beq_iff_eq.mpr c116
     have c116b1 : (t347 != 0) = false := bne_eq_false_iff_eq.mpr c116
     clear c116
     by_cases c117 : t357 = 0
     ·rw [if_pos c117] at H
      have c117b0 : (t357 == 0) = true := beq_iff_eq.mpr c117
      have c117b1 : (t357 != 0) = false := bne_eq_false_iff_eq.mpr c117
      clear c117
      by_cases a6 : (t355 == am && (t356 == al)) = true
      ·rw [if_pos a6] at H
       have c118b0 : (t355 == am && (t356 == al)) = true := a6
       (try (have c118b1 : decide (t355 = am && (t356 == al)) = true := by simpa using a6))
       (try (have c118b2 : (t355 == am && (t356 == al)) = true := by simpa using a6))
       clear a6
       replace H := Option.bind_eq_some_iff.mp H
       obtain ⟨t361, A1190, H⟩ := H
       (try dsimp only at H)
       have A119 := Aside0.mk A1190
       clear A1190
       by_cases c120 : t361 = true
       ·subst c120
        have H1 := H
        rw [if_pos rfl] at H1
        clear H
        have H := H1
        clear H1
        replace H := Option.bind_eq_some_iff.mp H
        obtain ⟨t362, A1210, H⟩ := H
        (try dsimp only at H)
        have A121 := Aside0.mk A1210
        clear A1210
        by_cases c122 : t362 = true
        ·subst c122
         have H1 := H
         rw [if_pos rfl] at H1
         clear H
         have H := H1
         clear H1
         replace H := Option.bind_eq_some_iff.mp H
         obtain ⟨t363, A1230, H⟩ := H
         (try dsimp only at H)
         have A123 := Aside0.mk A1230
         clear A1230
         by_cases a7 : ((t359 != t360) == t363) = true
         ·rw [if_pos a7] at H
          have c124b0 : ((t359 != t360) == t363) = true := a7
          try (have c124b09 : ((!(t359 == t360)) == t363) = true := c124b0)
          (try (have c124b1 : decide ((t359 != t360) = t363) = true := by simpa using a7))
          (try (have c124b2 : ((t359 != t360) == t363) = true := by simpa using a7))
          clear a7
          replace H := Option.bind_eq_some_iff.mp H
          obtain ⟨t364, A1250, H⟩ := H
          (try dsimp only at H)
          have A125 := Aside0.mk A1250
          clear A1250
          by_cases c126 : t364 = true
          ·subst c126
           have H1 : ((whirligiglaw01_lives.f bb).bind fun t365 => (some t365)) = some r := by rw [if_pos rfl] at H; exact H
           clear H
           have H := H1
           clear H1
           replace H := Option.bind_eq_some_iff.mp H
           obtain ⟨t365, A1270, H⟩ := H
           replace H : (some t365) = some r := H
           have A127 := Aside0.mk A1270
           clear A1270
           obtain rfl := Option.some.inj H
           have hnb128 := av.out
           have hnc128 := aq.out
           have hnb129 := ax.out
           have hnc129 := ay.out
           have hcz130_0 : wc.cell? ⟨aj, 0, none⟩ = some (.int .u32 t343) := (blk_cell ab.out 0).trans rfl
           have hcz130_1 : wc.cell? ⟨aj, 1, none⟩ = some (.int .i64 t344) := (blk_cell ab.out 1).trans rfl
           have hfz130_0 := blk_frozen ab.out 0
           have hfz130_1 := blk_frozen ab.out 1
           have hnb131 := aw.out
           have hnc131 := ar.out
           have hcz132_0 : wc.cell? ⟨ak, 0, none⟩ = some (.int .u32 t345) := (blk_cell ac.out 0).trans rfl
           have hcz132_1 : wc.cell? ⟨ak, 1, none⟩ = some (.int .i64 t346) := (blk_cell ac.out 1).trans rfl
           have hfz132_0 := blk_frozen ac.out 0
           have hfz132_1 := blk_frozen ac.out 1
           try go_wp2_with (first | ((with_reducible refine gate_callee (f := 25) rfl ?_); refine goesL_ (some 59) rfl rfl Try.func25 (by kernel_rfl) rfl #[.agg #[.int .u32 t343, .int .i64 t344], .agg #[.int .u32 t345, .int .i64 t346]] rfl (by (try simp only [List.map_toArray, List.map_cons, List.map_nil]); first | done | rfl) ?_; (with_reducible refine (addr_Above.calls bb t343 t344 t345 t346 t355 t356 t357 _ a8.out).mono ?_); rintro e w133 ⟨rfl, hb⟩; refine ⟨_, rfl, ?_⟩; replace aa := Aside0.mk (ka6e7.q aa.out hb rfl); replace ab := Aside0.mk (ka6e7.q ab.out hb rfl); replace ac := Aside0.mk (ka6e7.q ac.out hb rfl); replace HB := Aside0.mk (below_step (by repeat (first | (with_reducible first | exact HB.out | apply below_alloc | apply pw_below_drewN | apply below_drew1 | refine below_set ?_ ag.out | refine below_set ?_ ah.out | refine below_set ?_ ai.out) | exact HB.out)) hb); (try clear hb); (try clear a5); (try clear hk); (try clear hi)) | ((with_reducible refine gate_dst (N := 8) rfl ?_); refine box_event ?hg (N := 8) ?hd (cs := #[.int .u32 0, .int .i64 0]) (t := 30) ?hr ?_; (case hd => rfl); (case hg => rfl); (case hr => first | (go_simp; done) | (go_simp; rfl)); intro ad hg w134 hbox hb; have n0_ := Aside0.mk (ka6e7.q aa.out hb rfl); have n1_ := Aside0.mk (ka6e7.q ab.out hb rfl); have n2_ := Aside0.mk (ka6e7.q ac.out hb rfl); have n3_ := Aside0.mk (below_step (by repeat (first | (with_reducible first | exact HB.out | apply below_alloc | apply pw_below_drewN | apply below_drew1 | refine below_set ?_ ag.out | refine below_set ?_ ah.out | refine below_set ?_ ai.out) | exact HB.out)) hb); have n4_ := Aside0.mk (hbox); have n5_ := Aside0.mk ((by rw [hg]; exact (below_size (by repeat (first | (with_reducible first | exact HB.out | apply below_alloc | apply pw_below_drewN | apply below_drew1 | refine below_set ?_ ag.out | refine below_set ?_ ah.out | refine below_set ?_ ai.out) | exact HB.out))) : w.heap.size ≤ ad)); have n6_ := Aside0.mk ((by rw [hg]; exact (below_size (by repeat (first | (with_reducible first | exact HB.out | apply below_alloc | apply pw_below_drewN | apply below_drew1 | refine below_set ?_ ag.out | refine below_set ?_ ah.out | refine below_set ?_ ai.out) | exact HB.out))) : w.heap.size ≤ ad)); have n7_ := Aside0.mk ((by rw [hg]; exact Nat.ne_of_lt (blk_lt (g := af) (o := .cells #[.int .u32 am, .int .i64 al] 30 (0, 0)) (by (with_reducible repeat (first | refine blk_drewN ?_ _ | refine blk_drew ?_ | refine blk_alloc ?_ _)); exact aa.out)) : af ≠ ad)); have n8_ := Aside0.mk ((by rw [hg]; exact Nat.ne_of_gt (blk_lt (g := af) (o := .cells #[.int .u32 am, .int .i64 al] 30 (0, 0)) (by (with_reducible repeat (first | refine blk_drewN ?_ _ | refine blk_drew ?_ | refine blk_alloc ?_ _)); exact aa.out)) : ad ≠ af)); have n9_ := Aside0.mk ((by rw [hg]; exact Nat.ne_of_lt (blk_lt (g := aj) (o := .cells #[.int .u32 t343, .int .i64 t344] 30 (0, 0)) (by (with_reducible repeat (first | refine blk_drewN ?_ _ | refine blk_drew ?_ | refine blk_alloc ?_ _)); exact ab.out)) : aj ≠ ad)); have n10_ := Aside0.mk ((by rw [hg]; exact Nat.ne_of_gt (blk_lt (g := aj) (o := .cells #[.int .u32 t343, .int .i64 t344] 30 (0, 0)) (by (with_reducible repeat (first | refine blk_drewN ?_ _ | refine blk_drew ?_ | refine blk_alloc ?_ _)); exact ab.out)) : ad ≠ aj)); have n11_ := Aside0.mk ((by rw [hg]; exact Nat.ne_of_lt (blk_lt (g := ak) (o := .cells #[.int .u32 t345, .int .i64 t346] 30 (0, 0)) (by (with_reducible repeat (first | refine blk_drewN ?_ _ | refine blk_drew ?_ | refine blk_alloc ?_ _)); exact ac.out)) : ak ≠ ad)); have n12_ := Aside0.mk ((by rw [hg]; exact Nat.ne_of_gt (blk_lt (g := ak) (o := .cells #[.int .u32 t345, .int .i64 t346] 30 (0, 0)) (by (with_reducible repeat (first | refine blk_drewN ?_ _ | refine blk_drew ?_ | refine blk_alloc ?_ _)); exact ac.out)) : ad ≠ ak)); clear aa; clear ab; clear ac; clear HB; have aa := n0_; have ab := n1_; have ac := n2_; have HB := n3_; have ae := n4_; have GW358 := n5_; have au := n6_; have an := n7_; have az := n8_; have ao := n9_; have a3 := n10_; have ap := n11_; have a4 := n12_; clear n0_ n1_ n2_ n3_ n4_ n5_ n6_ n7_ n8_ n9_ n10_ n11_ n12_; clear hb hbox hg; have hnb135 := az.out; have hnc135 := an.out; have hnb136 := a3.out; have hnc136 := ao.out; have hnb137 := a4.out; have hnc137 := ap.out; have hcz138_0 : w134.cell? ⟨ad, 0, none⟩ = some (.int .u32 0) := (blk_cell ae.out 0).trans rfl; have hcz138_1 : w134.cell? ⟨ad, 1, none⟩ = some (.int .i64 0) := (blk_cell ae.out 1).trans rfl; have hfz138_0 := blk_frozen ae.out 0; have hfz138_1 := blk_frozen ae.out 1))
           have n0_ : Aside0 (((w134.setCell ⟨ad, 0, none⟩ (.int .u32 t355)).setCell ⟨ad, 1, none⟩ (.int .i64 t356)).heap[af]? = some (.cells #[.int .u32 am, .int .i64 al] 30 (0, 0))) := ⟨by (with_reducible repeat (first | refine blk_drewN ?_ _ | refine blk_drew ?_ | refine blk_alloc ?_ _)); refine blk_far ?_ an.out _; (with_reducible repeat (first | refine blk_drewN ?_ _ | refine blk_drew ?_ | refine blk_alloc ?_ _)); refine blk_far ?_ an.out _; (with_reducible repeat (first | refine blk_drewN ?_ _ | refine blk_drew ?_ | refine blk_alloc ?_ _)); exact aa.out⟩
           have n1_ : Aside0 (((w134.setCell ⟨ad, 0, none⟩ (.int .u32 t355)).setCell ⟨ad, 1, none⟩ (.int .i64 t356)).heap[aj]? = some (.cells #[.int .u32 t343, .int .i64 t344] 30 (0, 0))) := ⟨by (with_reducible repeat (first | refine blk_drewN ?_ _ | refine blk_drew ?_ | refine blk_alloc ?_ _)); refine blk_far ?_ ao.out _; (with_reducible repeat (first | refine blk_drewN ?_ _ | refine blk_drew ?_ | refine blk_alloc ?_ _)); refine blk_far ?_ ao.out _; (with_reducible repeat (first | refine blk_drewN ?_ _ | refine blk_drew ?_ | refine blk_alloc ?_ _)); exact ab.out⟩
           have n2_ : Aside0 (((w134.setCell ⟨ad, 0, none⟩ (.int .u32 t355)).setCell ⟨ad, 1, none⟩ (.int .i64 t356)).heap[ak]? = some (.cells #[.int .u32 t345, .int .i64 t346] 30 (0, 0))) := ⟨by (with_reducible repeat (first | refine blk_drewN ?_ _ | refine blk_drew ?_ | refine blk_alloc ?_ _)); refine blk_far ?_ ap.out _; (with_reducible repeat (first | refine blk_drewN ?_ _ | refine blk_drew ?_ | refine blk_alloc ?_ _)); refine blk_far ?_ ap.out _; (with_reducible repeat (first | refine blk_drewN ?_ _ | refine blk_drew ?_ | refine blk_alloc ?_ _)); exact ac.out⟩
           have n3_ : Aside0 (((w134.setCell ⟨ad, 0, none⟩ (.int .u32 t355)).setCell ⟨ad, 1, none⟩ (.int .i64 t356)).heap[ad]? = some (.cells #[.int .u32 t355, .int .i64 t356] 30 (0, 0))) := ⟨by (with_reducible repeat (first | refine blk_drewN ?_ _ | refine blk_drew ?_ | refine blk_alloc ?_ _)); refine blk_put (cs := #[.int .u32 t355, .int .i64 0]) ?_ 1 _ rfl; (with_reducible repeat (first | refine blk_drewN ?_ _ | refine blk_drew ?_ | refine blk_alloc ?_ _)); refine blk_put (cs := #[.int .u32 0, .int .i64 0]) ?_ 0 _ rfl; (with_reducible repeat (first | refine blk_drewN ?_ _ | refine blk_drew ?_ | refine blk_alloc ?_ _)); exact ae.out⟩
           have n4_ : Aside0 (Below w.heap.size w ((w134.setCell ⟨ad, 0, none⟩ (.int .u32 t355)).setCell ⟨ad, 1, none⟩ (.int .i64 t356))) := ⟨by repeat (first | (with_reducible first | exact HB.out | apply below_alloc | apply pw_below_drewN | apply below_drew1 | refine below_set ?_ ag.out | refine below_set ?_ ah.out | refine below_set ?_ ai.out | refine below_set ?_ au.out) | exact HB.out)⟩
           (try clear aa)
           (try clear ab)
           (try clear ac)
           (try clear ae)
           (try clear HB)
           generalize ((w134.setCell ⟨ad, 0, none⟩ (.int .u32 t355)).setCell ⟨ad, 1, none⟩ (.int .i64 t356)) = w139 at n0_ n1_ n2_ n3_ n4_ ⊢
           have aa := n0_
           have ab := n1_
           have ac := n2_
           have ae := n3_
           have HB := n4_
           clear n0_ n1_ n2_ n3_ n4_
           replace aa := Aside0.mk (blk_drew aa.out)
           replace ab := Aside0.mk (blk_drew ab.out)
           replace ac := Aside0.mk (blk_drew ac.out)
           replace ae := Aside0.mk (blk_drew ae.out)
           replace HB := Aside0.mk (below_drew1 HB.out)
           refine start_ (n := 8) (S := ka6e7.S0 aj ak (.int .u32 t343) (.int .i64 t344) (.int .u32 t345) (.int .i64 t346)) (ds := []) #[false, false, false, false, false, false, false, false] (by kernel_rfl) rfl rfl (ka6e7.b2 ab.out (ka6e7.b2e ac.out)) (fun hHeld => ?_); refine with_tabW whirligiglaw01_AddrHalves.tab5 whirligiglaw01_AddrHalves.bits5 (fun HT_ HW_ => ?_)
           generalize w139.drew = w140 at aa ab ac ae HB hHeld ⊢
           refine pure_ (i := 1) (N := some 63) (v := ?_) (a' := ?_) #[false, true, false, false, false, false, false, false] rfl rfl (any_of HT_.out (by kernel_rfl)) (fun _ _ _ h => h) (Or.inl ⟨by rfl, ?_⟩) ?_ ?_
           rotate_left
           ·intro w'
            go_simp
            with_reducible rfl
           rotate_left
           ·simp only [Act.put, List.setIfInBounds_toArray, List.set_cons_zero, List.set_cons_succ, i64_w]
            rfl
           refine pure_ (i := 4) (N := some 66) (v := ?_) (a' := ?_) #[false, true, false, false, true, false, false, false] rfl rfl (any_of HT_.out (by kernel_rfl)) (fun _ _ _ h => h) (Or.inl ⟨by rfl, ?_⟩) ?_ ?_
           rotate_left
           ·intro w'
            go_simp
            with_reducible rfl
           rotate_left
           ·simp only [Act.put, List.setIfInBounds_toArray, List.set_cons_zero, List.set_cons_succ, i64_w]
            rfl
           refine take_ (i := 0) (N := some 62) (v := ?_) (a' := ?_) #[true, true, false, false, true, false, false, false] rfl rfl (take_ofW HT_.out HW_.out (by kernel_rfl)) (fun _ _ _ h => h) (Or.inl ⟨by rfl, ?_⟩) hHeld ?_ ?_
           rotate_left
           ·rintro w' ⟨s0, s1, s2, s3⟩
            go_simp
            with_reducible rfl
           rotate_left
           ·simp only [Act.put, List.setIfInBounds_toArray, List.set_cons_zero, List.set_cons_succ, i64_w]
            rfl
           refine take_ (i := 3) (N := some 65) (v := ?_) (a' := ?_) #[true, true, false, true, true, false, false, false] rfl rfl (take_ofW HT_.out HW_.out (by kernel_rfl)) (fun _ _ _ h => h) (Or.inl ⟨by rfl, ?_⟩) hHeld ?_ ?_
           rotate_left
           ·rintro w' ⟨s0, s1, s2, s3⟩
            go_simp
            with_reducible rfl
           rotate_left
           ·simp only [Act.put, List.setIfInBounds_toArray, List.set_cons_zero, List.set_cons_succ, i64_w]
            rfl
           refine one_ (i := 2) (N := some 64) #[true, true, true, true, true, false, false, false] rfl rfl (one_of HT_.out (by kernel_rfl)) (by decide) (fun K hK => ?_)
           refine goes_ Try.func17 (by kernel_rfl) rfl #[.agg #[.int .u32 t343, .int .i64 t344], .int .u32 a1] (by rfl) rfl rfl (by (try simp only [List.map_toArray, List.map_cons, List.map_nil]); first | done | rfl) ?_
           with_reducible refine (addr_Has.calls t343 t344 a1 t359 _ a9.out).mono ?_
           rintro e w141 ⟨rfl, hb⟩
           refine ⟨_, rfl, ?_⟩
           replace aa := Aside0.mk (ka6e7.q aa.out hb rfl)
           replace ab := Aside0.mk (ka6e7.q ab.out hb rfl)
           replace ac := Aside0.mk (ka6e7.q ac.out hb rfl)
           replace ae := Aside0.mk (ka6e7.q ae.out hb rfl)
           replace HB := Aside0.mk (below_step (by repeat (first | (with_reducible first | exact HB.out | apply below_alloc | apply pw_below_drewN | apply below_drew1 | refine below_set ?_ ag.out | refine below_set ?_ ah.out | refine below_set ?_ ai.out | refine below_set ?_ au.out) | exact HB.out)) hb)
           (try clear hb)
           (try clear a5)
           (try clear hk)
           (try clear hi)
           refine hK.out _ _ (ka6e7.b2 ab.out (ka6e7.b2e ac.out)) (fun hHeld => ?_)
           clear hK K
           refine norm_ (a' := ?_) ?_ ?_
           rotate_left
           ·show Act.put _ (some 64) _ = _
            simp only [Act.put, List.setIfInBounds_toArray, List.set_cons_zero, List.set_cons_succ, i64_w]
            rfl
           refine one_ (i := 5) (N := some 67) #[true, true, true, true, true, true, false, false] rfl rfl (one_of HT_.out (by kernel_rfl)) (by decide) (fun K hK => ?_)
           refine goes_ Try.func17 (by kernel_rfl) rfl #[.agg #[.int .u32 t345, .int .i64 t346], .int .u32 a1] (by rfl) rfl rfl (by (try simp only [List.map_toArray, List.map_cons, List.map_nil]); first | done | rfl) ?_
           with_reducible refine (addr_Has.calls t345 t346 a1 t360 _ ba.out).mono ?_
           rintro e w142 ⟨rfl, hb⟩
           refine ⟨_, rfl, ?_⟩
           replace aa := Aside0.mk (ka6e7.q aa.out hb rfl)
           replace ab := Aside0.mk (ka6e7.q ab.out hb rfl)
           replace ac := Aside0.mk (ka6e7.q ac.out hb rfl)
           replace ae := Aside0.mk (ka6e7.q ae.out hb rfl)
           replace HB := Aside0.mk (below_step (by repeat (first | (with_reducible first | exact HB.out | apply below_alloc | apply pw_below_drewN | apply below_drew1 | refine below_set ?_ ag.out | refine below_set ?_ ah.out | refine below_set ?_ ai.out | refine below_set ?_ au.out) | exact HB.out)) hb)
           (try clear hb)
           (try clear a5)
           (try clear hk)
           (try clear hi)
           refine hK.out _ _ (ka6e7.b2 ab.out (ka6e7.b2e ac.out)) (fun hHeld => ?_)
           clear hK K
           refine norm_ (a' := ?_) ?_ ?_
           rotate_left
           ·show Act.put _ (some 67) _ = _
            simp only [Act.put, List.setIfInBounds_toArray, List.set_cons_zero, List.set_cons_succ, i64_w]
            rfl
           refine pure_ (i := 6) (N := some 68) (v := ?_) (a' := ?_) #[true, true, true, true, true, true, true, false] rfl rfl (any_of HT_.out (by kernel_rfl)) (fun _ _ _ h => h) (Or.inl ⟨by rfl, ?_⟩) ?_ ?_
           rotate_left
           ·intro w'
            go_simp
            with_reducible rfl
           rotate_left
           ·simp only [Act.put, List.setIfInBounds_toArray, List.set_cons_zero, List.set_cons_succ, i64_w]
            rfl
           refine pure_ (i := 7) (N := some 10) (v := ?_) (a' := ?_) #[true, true, true, true, true, true, true, true] rfl rfl (any_of HT_.out (by kernel_rfl)) (fun _ _ _ h => h) (Or.inl ⟨by rfl, ?_⟩) ?_ ?_
           rotate_left
           ·intro w'
            go_simp
            with_reducible rfl
           rotate_left
           ·simp only [Act.put, List.setIfInBounds_toArray, List.set_cons_zero, List.set_cons_succ, i64_w]
            rfl
           refine done_ (done_of HT_.out (by kernel_rfl)) ?_
           have hcz143_0 : w142.cell? ⟨ad, 0, none⟩ = some (.int .u32 t355) := (blk_cell ae.out 0).trans rfl
           have hcz143_1 : w142.cell? ⟨ad, 1, none⟩ = some (.int .i64 t356) := (blk_cell ae.out 1).trans rfl
           have hfz143_0 := blk_frozen ae.out 0
           have hfz143_1 := blk_frozen ae.out 1
           have hcz144_0 : w142.cell? ⟨af, 0, none⟩ = some (.int .u32 am) := (blk_cell aa.out 0).trans rfl
           have hcz144_1 : w142.cell? ⟨af, 1, none⟩ = some (.int .i64 al) := (blk_cell aa.out 1).trans rfl
           have hfz144_0 := blk_frozen aa.out 0
           have hfz144_1 := blk_frozen aa.out 1
           have hcz145_0 : w142.cell? ⟨aj, 0, none⟩ = some (.int .u32 t343) := (blk_cell ab.out 0).trans rfl
           have hcz145_1 : w142.cell? ⟨aj, 1, none⟩ = some (.int .i64 t344) := (blk_cell ab.out 1).trans rfl
           have hfz145_0 := blk_frozen ab.out 0
           have hfz145_1 := blk_frozen ab.out 1
           try go_wp2_with (first | (go_at_call 27; (with_reducible refine (addr_May.calls t343 t344 true _ A119.out).mono ?_); rintro e w146 ⟨rfl, hb⟩; replace aa := Aside0.mk (ka6e7.q aa.out hb rfl); replace ab := Aside0.mk (ka6e7.q ab.out hb rfl); replace ac := Aside0.mk (ka6e7.q ac.out hb rfl); replace ae := Aside0.mk (ka6e7.q ae.out hb rfl); replace HB := Aside0.mk (below_step (by repeat (first | (with_reducible first | exact HB.out | apply below_alloc | apply pw_below_drewN | apply below_drew1 | refine below_set ?_ ag.out | refine below_set ?_ ah.out | refine below_set ?_ ai.out | refine below_set ?_ au.out) | exact HB.out)) hb); (try clear hb); (try clear a5); (try clear hk); (try clear hi); have hcz147_0 : w146.cell? ⟨ak, 0, none⟩ = some (.int .u32 t345) := (blk_cell ac.out 0).trans rfl; have hcz147_1 : w146.cell? ⟨ak, 1, none⟩ = some (.int .i64 t346) := (blk_cell ac.out 1).trans rfl; have hfz147_0 := blk_frozen ac.out 0; have hfz147_1 := blk_frozen ac.out 1) | (go_at_call 27; (with_reducible refine (addr_May.calls t345 t346 true _ A121.out).mono ?_); rintro e w148 ⟨rfl, hb⟩; replace aa := Aside0.mk (ka6e7.q aa.out hb rfl); replace ab := Aside0.mk (ka6e7.q ab.out hb rfl); replace ac := Aside0.mk (ka6e7.q ac.out hb rfl); replace ae := Aside0.mk (ka6e7.q ae.out hb rfl); replace HB := Aside0.mk (below_step (by repeat (first | (with_reducible first | exact HB.out | apply below_alloc | apply pw_below_drewN | apply below_drew1 | refine below_set ?_ ag.out | refine below_set ?_ ah.out | refine below_set ?_ ai.out | refine below_set ?_ au.out) | exact HB.out)) hb); (try clear hb); (try clear a5); (try clear hk); (try clear hi); have hcz149_0 : w148.cell? ⟨af, 0, none⟩ = some (.int .u32 am) := (blk_cell aa.out 0).trans rfl; have hcz149_1 : w148.cell? ⟨af, 1, none⟩ = some (.int .i64 al) := (blk_cell aa.out 1).trans rfl; have hfz149_0 := blk_frozen aa.out 0; have hfz149_1 := blk_frozen aa.out 1) | (go_at_call 17; (with_reducible refine (addr_Has.calls am al a1 t363 _ A123.out).mono ?_); rintro e w150 ⟨rfl, hb⟩; replace aa := Aside0.mk (ka6e7.q aa.out hb rfl); replace ab := Aside0.mk (ka6e7.q ab.out hb rfl); replace ac := Aside0.mk (ka6e7.q ac.out hb rfl); replace ae := Aside0.mk (ka6e7.q ae.out hb rfl); replace HB := Aside0.mk (below_step (by repeat (first | (with_reducible first | exact HB.out | apply below_alloc | apply pw_below_drewN | apply below_drew1 | refine below_set ?_ ag.out | refine below_set ?_ ah.out | refine below_set ?_ ai.out | refine below_set ?_ au.out) | exact HB.out)) hb); (try clear hb); (try clear a5); (try clear hk); (try clear hi); have hcz151_0 : w150.cell? ⟨aj, 0, none⟩ = some (.int .u32 t343) := (blk_cell ab.out 0).trans rfl; have hcz151_1 : w150.cell? ⟨aj, 1, none⟩ = some (.int .i64 t344) := (blk_cell ab.out 1).trans rfl; have hfz151_0 := blk_frozen ab.out 0; have hfz151_1 := blk_frozen ab.out 1; have hcz152_0 : w150.cell? ⟨ak, 0, none⟩ = some (.int .u32 t345) := (blk_cell ac.out 0).trans rfl; have hcz152_1 : w150.cell? ⟨ak, 1, none⟩ = some (.int .i64 t346) := (blk_cell ac.out 1).trans rfl; have hfz152_0 := blk_frozen ac.out 0; have hfz152_1 := blk_frozen ac.out 1) | (go_at_call 21; (with_reducible refine (addr_Before.calls t343 t344 t345 t346 true _ A125.out).mono ?_); rintro e w153 ⟨rfl, hb⟩; replace aa := Aside0.mk (ka6e7.q aa.out hb rfl); replace ab := Aside0.mk (ka6e7.q ab.out hb rfl); replace ac := Aside0.mk (ka6e7.q ac.out hb rfl); replace ae := Aside0.mk (ka6e7.q ae.out hb rfl); replace HB := Aside0.mk (below_step (by repeat (first | (with_reducible first | exact HB.out | apply below_alloc | apply pw_below_drewN | apply below_drew1 | refine below_set ?_ ag.out | refine below_set ?_ ah.out | refine below_set ?_ ai.out | refine below_set ?_ au.out) | exact HB.out)) hb); (try clear hb); (try clear a5); (try clear hk); (try clear hi)) | (go_at_call 8; (with_reducible refine (whirligiglaw01_lives.calls bb  t365 _ A127.out).mono ?_); rintro e w154 ⟨rfl, hb⟩; replace aa := Aside0.mk (ka6e7.q aa.out hb rfl); replace ab := Aside0.mk (ka6e7.q ab.out hb rfl); replace ac := Aside0.mk (ka6e7.q ac.out hb rfl); replace ae := Aside0.mk (ka6e7.q ae.out hb rfl); replace HB := Aside0.mk (below_step (by repeat (first | (with_reducible first | exact HB.out | apply below_alloc | apply pw_below_drewN | apply below_drew1 | refine below_set ?_ ag.out | refine below_set ?_ ah.out | refine below_set ?_ ai.out | refine below_set ?_ au.out) | exact HB.out)) hb); (try clear hb); (try clear a5); (try clear hk); (try clear hi)))
           go_ret
           exact ⟨by first | rfl | (simp [errW_none, errW_some] <;> rfl) | (simp [*, errW_none, errW_some] <;> rfl), by repeat (first | (with_reducible first | exact HB.out | apply below_alloc | apply pw_below_drewN | apply below_drew1 | refine below_set ?_ ag.out | refine below_set ?_ ah.out | refine below_set ?_ ai.out | refine below_set ?_ au.out) | exact HB.out)⟩
          ·replace c126 := Bool.eq_false_iff.mpr c126
           subst c126
           have H1 : (some false) = some r := by rw [if_neg (show ¬ (false = true) by decide)] at H; exact H
           clear H
           have H := H1
           clear H1
           obtain rfl := Option.some.inj H
           have hnb155 := av.out
           have hnc155 := aq.out
           have hnb156 := ax.out
           have hnc156 := ay.out
           have hcz157_0 : wc.cell? ⟨aj, 0, none⟩ = some (.int .u32 t343) := (blk_cell ab.out 0).trans rfl
           have hcz157_1 : wc.cell? ⟨aj, 1, none⟩ = some (.int .i64 t344) := (blk_cell ab.out 1).trans rfl
           have hfz157_0 := blk_frozen ab.out 0
           have hfz157_1 := blk_frozen ab.out 1
           have hnb158 := aw.out
           have hnc158 := ar.out
           have hcz159_0 : wc.cell? ⟨ak, 0, none⟩ = some (.int .u32 t345) := (blk_cell ac.out 0).trans rfl
           have hcz159_1 : wc.cell? ⟨ak, 1, none⟩ = some (.int .i64 t346) := (blk_cell ac.out 1).trans rfl
           have hfz159_0 := blk_frozen ac.out 0
           have hfz159_1 := blk_frozen ac.out 1
           try go_wp2_with (first | ((with_reducible refine gate_callee (f := 25) rfl ?_); refine goesL_ (some 59) rfl rfl Try.func25 (by kernel_rfl) rfl #[.agg #[.int .u32 t343, .int .i64 t344], .agg #[.int .u32 t345, .int .i64 t346]] rfl (by (try simp only [List.map_toArray, List.map_cons, List.map_nil]); first | done | rfl) ?_; (with_reducible refine (addr_Above.calls bb t343 t344 t345 t346 t355 t356 t357 _ a8.out).mono ?_); rintro e w160 ⟨rfl, hb⟩; refine ⟨_, rfl, ?_⟩; replace aa := Aside0.mk (ka6e7.q aa.out hb rfl); replace ab := Aside0.mk (ka6e7.q ab.out hb rfl); replace ac := Aside0.mk (ka6e7.q ac.out hb rfl); replace HB := Aside0.mk (below_step (by repeat (first | (with_reducible first | exact HB.out | apply below_alloc | apply pw_below_drewN | apply below_drew1 | refine below_set ?_ ag.out | refine below_set ?_ ah.out | refine below_set ?_ ai.out) | exact HB.out)) hb); (try clear hb); (try clear a5); (try clear hk); (try clear hi)) | ((with_reducible refine gate_dst (N := 8) rfl ?_); refine box_event ?hg (N := 8) ?hd (cs := #[.int .u32 0, .int .i64 0]) (t := 30) ?hr ?_; (case hd => rfl); (case hg => rfl); (case hr => first | (go_simp; done) | (go_simp; rfl)); intro ad hg w161 hbox hb; have n0_ := Aside0.mk (ka6e7.q aa.out hb rfl); have n1_ := Aside0.mk (ka6e7.q ab.out hb rfl); have n2_ := Aside0.mk (ka6e7.q ac.out hb rfl); have n3_ := Aside0.mk (below_step (by repeat (first | (with_reducible first | exact HB.out | apply below_alloc | apply pw_below_drewN | apply below_drew1 | refine below_set ?_ ag.out | refine below_set ?_ ah.out | refine below_set ?_ ai.out) | exact HB.out)) hb); have n4_ := Aside0.mk (hbox); have n5_ := Aside0.mk ((by rw [hg]; exact (below_size (by repeat (first | (with_reducible first | exact HB.out | apply below_alloc | apply pw_below_drewN | apply below_drew1 | refine below_set ?_ ag.out | refine below_set ?_ ah.out | refine below_set ?_ ai.out) | exact HB.out))) : w.heap.size ≤ ad)); have n6_ := Aside0.mk ((by rw [hg]; exact (below_size (by repeat (first | (with_reducible first | exact HB.out | apply below_alloc | apply pw_below_drewN | apply below_drew1 | refine below_set ?_ ag.out | refine below_set ?_ ah.out | refine below_set ?_ ai.out) | exact HB.out))) : w.heap.size ≤ ad)); have n7_ := Aside0.mk ((by rw [hg]; exact Nat.ne_of_lt (blk_lt (g := af) (o := .cells #[.int .u32 am, .int .i64 al] 30 (0, 0)) (by (with_reducible repeat (first | refine blk_drewN ?_ _ | refine blk_drew ?_ | refine blk_alloc ?_ _)); exact aa.out)) : af ≠ ad)); have n8_ := Aside0.mk ((by rw [hg]; exact Nat.ne_of_gt (blk_lt (g := af) (o := .cells #[.int .u32 am, .int .i64 al] 30 (0, 0)) (by (with_reducible repeat (first | refine blk_drewN ?_ _ | refine blk_drew ?_ | refine blk_alloc ?_ _)); exact aa.out)) : ad ≠ af)); have n9_ := Aside0.mk ((by rw [hg]; exact Nat.ne_of_lt (blk_lt (g := aj) (o := .cells #[.int .u32 t343, .int .i64 t344] 30 (0, 0)) (by (with_reducible repeat (first | refine blk_drewN ?_ _ | refine blk_drew ?_ | refine blk_alloc ?_ _)); exact ab.out)) : aj ≠ ad)); have n10_ := Aside0.mk ((by rw [hg]; exact Nat.ne_of_gt (blk_lt (g := aj) (o := .cells #[.int .u32 t343, .int .i64 t344] 30 (0, 0)) (by (with_reducible repeat (first | refine blk_drewN ?_ _ | refine blk_drew ?_ | refine blk_alloc ?_ _)); exact ab.out)) : ad ≠ aj)); have n11_ := Aside0.mk ((by rw [hg]; exact Nat.ne_of_lt (blk_lt (g := ak) (o := .cells #[.int .u32 t345, .int .i64 t346] 30 (0, 0)) (by (with_reducible repeat (first | refine blk_drewN ?_ _ | refine blk_drew ?_ | refine blk_alloc ?_ _)); exact ac.out)) : ak ≠ ad)); have n12_ := Aside0.mk ((by rw [hg]; exact Nat.ne_of_gt (blk_lt (g := ak) (o := .cells #[.int .u32 t345, .int .i64 t346] 30 (0, 0)) (by (with_reducible repeat (first | refine blk_drewN ?_ _ | refine blk_drew ?_ | refine blk_alloc ?_ _)); exact ac.out)) : ad ≠ ak)); clear aa; clear ab; clear ac; clear HB; have aa := n0_; have ab := n1_; have ac := n2_; have HB := n3_; have ae := n4_; have GW358 := n5_; have au := n6_; have an := n7_; have az := n8_; have ao := n9_; have a3 := n10_; have ap := n11_; have a4 := n12_; clear n0_ n1_ n2_ n3_ n4_ n5_ n6_ n7_ n8_ n9_ n10_ n11_ n12_; clear hb hbox hg; have hnb162 := az.out; have hnc162 := an.out; have hnb163 := a3.out; have hnc163 := ao.out; have hnb164 := a4.out; have hnc164 := ap.out; have hcz165_0 : w161.cell? ⟨ad, 0, none⟩ = some (.int .u32 0) := (blk_cell ae.out 0).trans rfl; have hcz165_1 : w161.cell? ⟨ad, 1, none⟩ = some (.int .i64 0) := (blk_cell ae.out 1).trans rfl; have hfz165_0 := blk_frozen ae.out 0; have hfz165_1 := blk_frozen ae.out 1))
           have n0_ : Aside0 (((w161.setCell ⟨ad, 0, none⟩ (.int .u32 t355)).setCell ⟨ad, 1, none⟩ (.int .i64 t356)).heap[af]? = some (.cells #[.int .u32 am, .int .i64 al] 30 (0, 0))) := ⟨by (with_reducible repeat (first | refine blk_drewN ?_ _ | refine blk_drew ?_ | refine blk_alloc ?_ _)); refine blk_far ?_ an.out _; (with_reducible repeat (first | refine blk_drewN ?_ _ | refine blk_drew ?_ | refine blk_alloc ?_ _)); refine blk_far ?_ an.out _; (with_reducible repeat (first | refine blk_drewN ?_ _ | refine blk_drew ?_ | refine blk_alloc ?_ _)); exact aa.out⟩
           have n1_ : Aside0 (((w161.setCell ⟨ad, 0, none⟩ (.int .u32 t355)).setCell ⟨ad, 1, none⟩ (.int .i64 t356)).heap[aj]? = some (.cells #[.int .u32 t343, .int .i64 t344] 30 (0, 0))) := ⟨by (with_reducible repeat (first | refine blk_drewN ?_ _ | refine blk_drew ?_ | refine blk_alloc ?_ _)); refine blk_far ?_ ao.out _; (with_reducible repeat (first | refine blk_drewN ?_ _ | refine blk_drew ?_ | refine blk_alloc ?_ _)); refine blk_far ?_ ao.out _; (with_reducible repeat (first | refine blk_drewN ?_ _ | refine blk_drew ?_ | refine blk_alloc ?_ _)); exact ab.out⟩
           have n2_ : Aside0 (((w161.setCell ⟨ad, 0, none⟩ (.int .u32 t355)).setCell ⟨ad, 1, none⟩ (.int .i64 t356)).heap[ak]? = some (.cells #[.int .u32 t345, .int .i64 t346] 30 (0, 0))) := ⟨by (with_reducible repeat (first | refine blk_drewN ?_ _ | refine blk_drew ?_ | refine blk_alloc ?_ _)); refine blk_far ?_ ap.out _; (with_reducible repeat (first | refine blk_drewN ?_ _ | refine blk_drew ?_ | refine blk_alloc ?_ _)); refine blk_far ?_ ap.out _; (with_reducible repeat (first | refine blk_drewN ?_ _ | refine blk_drew ?_ | refine blk_alloc ?_ _)); exact ac.out⟩
           have n3_ : Aside0 (((w161.setCell ⟨ad, 0, none⟩ (.int .u32 t355)).setCell ⟨ad, 1, none⟩ (.int .i64 t356)).heap[ad]? = some (.cells #[.int .u32 t355, .int .i64 t356] 30 (0, 0))) := ⟨by (with_reducible repeat (first | refine blk_drewN ?_ _ | refine blk_drew ?_ | refine blk_alloc ?_ _)); refine blk_put (cs := #[.int .u32 t355, .int .i64 0]) ?_ 1 _ rfl; (with_reducible repeat (first | refine blk_drewN ?_ _ | refine blk_drew ?_ | refine blk_alloc ?_ _)); refine blk_put (cs := #[.int .u32 0, .int .i64 0]) ?_ 0 _ rfl; (with_reducible repeat (first | refine blk_drewN ?_ _ | refine blk_drew ?_ | refine blk_alloc ?_ _)); exact ae.out⟩
           have n4_ : Aside0 (Below w.heap.size w ((w161.setCell ⟨ad, 0, none⟩ (.int .u32 t355)).setCell ⟨ad, 1, none⟩ (.int .i64 t356))) := ⟨by repeat (first | (with_reducible first | exact HB.out | apply below_alloc | apply pw_below_drewN | apply below_drew1 | refine below_set ?_ ag.out | refine below_set ?_ ah.out | refine below_set ?_ ai.out | refine below_set ?_ au.out) | exact HB.out)⟩
           (try clear aa)
           (try clear ab)
           (try clear ac)
           (try clear ae)
           (try clear HB)
           generalize ((w161.setCell ⟨ad, 0, none⟩ (.int .u32 t355)).setCell ⟨ad, 1, none⟩ (.int .i64 t356)) = w166 at n0_ n1_ n2_ n3_ n4_ ⊢
           have aa := n0_
           have ab := n1_
           have ac := n2_
           have ae := n3_
           have HB := n4_
           clear n0_ n1_ n2_ n3_ n4_
           replace aa := Aside0.mk (blk_drew aa.out)
           replace ab := Aside0.mk (blk_drew ab.out)
           replace ac := Aside0.mk (blk_drew ac.out)
           replace ae := Aside0.mk (blk_drew ae.out)
           replace HB := Aside0.mk (below_drew1 HB.out)
           refine start_ (n := 8) (S := ka6e7.S0 aj ak (.int .u32 t343) (.int .i64 t344) (.int .u32 t345) (.int .i64 t346)) (ds := []) #[false, false, false, false, false, false, false, false] (by kernel_rfl) rfl rfl (ka6e7.b2 ab.out (ka6e7.b2e ac.out)) (fun hHeld => ?_); refine with_tabW whirligiglaw01_AddrHalves.tab5 whirligiglaw01_AddrHalves.bits5 (fun HT_ HW_ => ?_)
           generalize w166.drew = w167 at aa ab ac ae HB hHeld ⊢
           refine pure_ (i := 1) (N := some 63) (v := ?_) (a' := ?_) #[false, true, false, false, false, false, false, false] rfl rfl (any_of HT_.out (by kernel_rfl)) (fun _ _ _ h => h) (Or.inl ⟨by rfl, ?_⟩) ?_ ?_
           rotate_left
           ·intro w'
            go_simp
            with_reducible rfl
           rotate_left
           ·simp only [Act.put, List.setIfInBounds_toArray, List.set_cons_zero, List.set_cons_succ, i64_w]
            rfl
           refine pure_ (i := 4) (N := some 66) (v := ?_) (a' := ?_) #[false, true, false, false, true, false, false, false] rfl rfl (any_of HT_.out (by kernel_rfl)) (fun _ _ _ h => h) (Or.inl ⟨by rfl, ?_⟩) ?_ ?_
           rotate_left
           ·intro w'
            go_simp
            with_reducible rfl
           rotate_left
           ·simp only [Act.put, List.setIfInBounds_toArray, List.set_cons_zero, List.set_cons_succ, i64_w]
            rfl
           refine take_ (i := 0) (N := some 62) (v := ?_) (a' := ?_) #[true, true, false, false, true, false, false, false] rfl rfl (take_ofW HT_.out HW_.out (by kernel_rfl)) (fun _ _ _ h => h) (Or.inl ⟨by rfl, ?_⟩) hHeld ?_ ?_
           rotate_left
           ·rintro w' ⟨s0, s1, s2, s3⟩
            go_simp
            with_reducible rfl
           rotate_left
           ·simp only [Act.put, List.setIfInBounds_toArray, List.set_cons_zero, List.set_cons_succ, i64_w]
            rfl
           refine take_ (i := 3) (N := some 65) (v := ?_) (a' := ?_) #[true, true, false, true, true, false, false, false] rfl rfl (take_ofW HT_.out HW_.out (by kernel_rfl)) (fun _ _ _ h => h) (Or.inl ⟨by rfl, ?_⟩) hHeld ?_ ?_
           rotate_left
           ·rintro w' ⟨s0, s1, s2, s3⟩
            go_simp
            with_reducible rfl
           rotate_left
           ·simp only [Act.put, List.setIfInBounds_toArray, List.set_cons_zero, List.set_cons_succ, i64_w]
            rfl
           refine one_ (i := 2) (N := some 64) #[true, true, true, true, true, false, false, false] rfl rfl (one_of HT_.out (by kernel_rfl)) (by decide) (fun K hK => ?_)
           refine goes_ Try.func17 (by kernel_rfl) rfl #[.agg #[.int .u32 t343, .int .i64 t344], .int .u32 a1] (by rfl) rfl rfl (by (try simp only [List.map_toArray, List.map_cons, List.map_nil]); first | done | rfl) ?_
           with_reducible refine (addr_Has.calls t343 t344 a1 t359 _ a9.out).mono ?_
           rintro e w168 ⟨rfl, hb⟩
           refine ⟨_, rfl, ?_⟩
           replace aa := Aside0.mk (ka6e7.q aa.out hb rfl)
           replace ab := Aside0.mk (ka6e7.q ab.out hb rfl)
           replace ac := Aside0.mk (ka6e7.q ac.out hb rfl)
           replace ae := Aside0.mk (ka6e7.q ae.out hb rfl)
           replace HB := Aside0.mk (below_step (by repeat (first | (with_reducible first | exact HB.out | apply below_alloc | apply pw_below_drewN | apply below_drew1 | refine below_set ?_ ag.out | refine below_set ?_ ah.out | refine below_set ?_ ai.out | refine below_set ?_ au.out) | exact HB.out)) hb)
           (try clear hb)
           (try clear a5)
           (try clear hk)
           (try clear hi)
           refine hK.out _ _ (ka6e7.b2 ab.out (ka6e7.b2e ac.out)) (fun hHeld => ?_)
           clear hK K
           refine norm_ (a' := ?_) ?_ ?_
           rotate_left
           ·show Act.put _ (some 64) _ = _
            simp only [Act.put, List.setIfInBounds_toArray, List.set_cons_zero, List.set_cons_succ, i64_w]
            rfl
           refine one_ (i := 5) (N := some 67) #[true, true, true, true, true, true, false, false] rfl rfl (one_of HT_.out (by kernel_rfl)) (by decide) (fun K hK => ?_)
           refine goes_ Try.func17 (by kernel_rfl) rfl #[.agg #[.int .u32 t345, .int .i64 t346], .int .u32 a1] (by rfl) rfl rfl (by (try simp only [List.map_toArray, List.map_cons, List.map_nil]); first | done | rfl) ?_
           with_reducible refine (addr_Has.calls t345 t346 a1 t360 _ ba.out).mono ?_
           rintro e w169 ⟨rfl, hb⟩
           refine ⟨_, rfl, ?_⟩
           replace aa := Aside0.mk (ka6e7.q aa.out hb rfl)
           replace ab := Aside0.mk (ka6e7.q ab.out hb rfl)
           replace ac := Aside0.mk (ka6e7.q ac.out hb rfl)
           replace ae := Aside0.mk (ka6e7.q ae.out hb rfl)
           replace HB := Aside0.mk (below_step (by repeat (first | (with_reducible first | exact HB.out | apply below_alloc | apply pw_below_drewN | apply below_drew1 | refine below_set ?_ ag.out | refine below_set ?_ ah.out | refine below_set ?_ ai.out | refine below_set ?_ au.out) | exact HB.out)) hb)
           (try clear hb)
           (try clear a5)
           (try clear hk)
           (try clear hi)
           refine hK.out _ _ (ka6e7.b2 ab.out (ka6e7.b2e ac.out)) (fun hHeld => ?_)
           clear hK K
           refine norm_ (a' := ?_) ?_ ?_
           rotate_left
           ·show Act.put _ (some 67) _ = _
            simp only [Act.put, List.setIfInBounds_toArray, List.set_cons_zero, List.set_cons_succ, i64_w]
            rfl
           refine pure_ (i := 6) (N := some 68) (v := ?_) (a' := ?_) #[true, true, true, true, true, true, true, false] rfl rfl (any_of HT_.out (by kernel_rfl)) (fun _ _ _ h => h) (Or.inl ⟨by rfl, ?_⟩) ?_ ?_
           rotate_left
           ·intro w'
            go_simp
            with_reducible rfl
           rotate_left
           ·simp only [Act.put, List.setIfInBounds_toArray, List.set_cons_zero, List.set_cons_succ, i64_w]
            rfl
           refine pure_ (i := 7) (N := some 10) (v := ?_) (a' := ?_) #[true, true, true, true, true, true, true, true] rfl rfl (any_of HT_.out (by kernel_rfl)) (fun _ _ _ h => h) (Or.inl ⟨by rfl, ?_⟩) ?_ ?_
           rotate_left
           ·intro w'
            go_simp
            with_reducible rfl
           rotate_left
           ·simp only [Act.put, List.setIfInBounds_toArray, List.set_cons_zero, List.set_cons_succ, i64_w]
            rfl
           refine done_ (done_of HT_.out (by kernel_rfl)) ?_
           have hcz170_0 : w169.cell? ⟨ad, 0, none⟩ = some (.int .u32 t355) := (blk_cell ae.out 0).trans rfl
           have hcz170_1 : w169.cell? ⟨ad, 1, none⟩ = some (.int .i64 t356) := (blk_cell ae.out 1).trans rfl
           have hfz170_0 := blk_frozen ae.out 0
           have hfz170_1 := blk_frozen ae.out 1
           have hcz171_0 : w169.cell? ⟨af, 0, none⟩ = some (.int .u32 am) := (blk_cell aa.out 0).trans rfl
           have hcz171_1 : w169.cell? ⟨af, 1, none⟩ = some (.int .i64 al) := (blk_cell aa.out 1).trans rfl
           have hfz171_0 := blk_frozen aa.out 0
           have hfz171_1 := blk_frozen aa.out 1
           have hcz172_0 : w169.cell? ⟨aj, 0, none⟩ = some (.int .u32 t343) := (blk_cell ab.out 0).trans rfl
           have hcz172_1 : w169.cell? ⟨aj, 1, none⟩ = some (.int .i64 t344) := (blk_cell ab.out 1).trans rfl
           have hfz172_0 := blk_frozen ab.out 0
           have hfz172_1 := blk_frozen ab.out 1
           try go_wp2_with (first | (go_at_call 27; (with_reducible refine (addr_May.calls t343 t344 true _ A119.out).mono ?_); rintro e w173 ⟨rfl, hb⟩; replace aa := Aside0.mk (ka6e7.q aa.out hb rfl); replace ab := Aside0.mk (ka6e7.q ab.out hb rfl); replace ac := Aside0.mk (ka6e7.q ac.out hb rfl); replace ae := Aside0.mk (ka6e7.q ae.out hb rfl); replace HB := Aside0.mk (below_step (by repeat (first | (with_reducible first | exact HB.out | apply below_alloc | apply pw_below_drewN | apply below_drew1 | refine below_set ?_ ag.out | refine below_set ?_ ah.out | refine below_set ?_ ai.out | refine below_set ?_ au.out) | exact HB.out)) hb); (try clear hb); (try clear a5); (try clear hk); (try clear hi); have hcz174_0 : w173.cell? ⟨ak, 0, none⟩ = some (.int .u32 t345) := (blk_cell ac.out 0).trans rfl; have hcz174_1 : w173.cell? ⟨ak, 1, none⟩ = some (.int .i64 t346) := (blk_cell ac.out 1).trans rfl; have hfz174_0 := blk_frozen ac.out 0; have hfz174_1 := blk_frozen ac.out 1) | (go_at_call 27; (with_reducible refine (addr_May.calls t345 t346 true _ A121.out).mono ?_); rintro e w175 ⟨rfl, hb⟩; replace aa := Aside0.mk (ka6e7.q aa.out hb rfl); replace ab := Aside0.mk (ka6e7.q ab.out hb rfl); replace ac := Aside0.mk (ka6e7.q ac.out hb rfl); replace ae := Aside0.mk (ka6e7.q ae.out hb rfl); replace HB := Aside0.mk (below_step (by repeat (first | (with_reducible first | exact HB.out | apply below_alloc | apply pw_below_drewN | apply below_drew1 | refine below_set ?_ ag.out | refine below_set ?_ ah.out | refine below_set ?_ ai.out | refine below_set ?_ au.out) | exact HB.out)) hb); (try clear hb); (try clear a5); (try clear hk); (try clear hi); have hcz176_0 : w175.cell? ⟨af, 0, none⟩ = some (.int .u32 am) := (blk_cell aa.out 0).trans rfl; have hcz176_1 : w175.cell? ⟨af, 1, none⟩ = some (.int .i64 al) := (blk_cell aa.out 1).trans rfl; have hfz176_0 := blk_frozen aa.out 0; have hfz176_1 := blk_frozen aa.out 1) | (go_at_call 17; (with_reducible refine (addr_Has.calls am al a1 t363 _ A123.out).mono ?_); rintro e w177 ⟨rfl, hb⟩; replace aa := Aside0.mk (ka6e7.q aa.out hb rfl); replace ab := Aside0.mk (ka6e7.q ab.out hb rfl); replace ac := Aside0.mk (ka6e7.q ac.out hb rfl); replace ae := Aside0.mk (ka6e7.q ae.out hb rfl); replace HB := Aside0.mk (below_step (by repeat (first | (with_reducible first | exact HB.out | apply below_alloc | apply pw_below_drewN | apply below_drew1 | refine below_set ?_ ag.out | refine below_set ?_ ah.out | refine below_set ?_ ai.out | refine below_set ?_ au.out) | exact HB.out)) hb); (try clear hb); (try clear a5); (try clear hk); (try clear hi); have hcz178_0 : w177.cell? ⟨aj, 0, none⟩ = some (.int .u32 t343) := (blk_cell ab.out 0).trans rfl; have hcz178_1 : w177.cell? ⟨aj, 1, none⟩ = some (.int .i64 t344) := (blk_cell ab.out 1).trans rfl; have hfz178_0 := blk_frozen ab.out 0; have hfz178_1 := blk_frozen ab.out 1; have hcz179_0 : w177.cell? ⟨ak, 0, none⟩ = some (.int .u32 t345) := (blk_cell ac.out 0).trans rfl; have hcz179_1 : w177.cell? ⟨ak, 1, none⟩ = some (.int .i64 t346) := (blk_cell ac.out 1).trans rfl; have hfz179_0 := blk_frozen ac.out 0; have hfz179_1 := blk_frozen ac.out 1) | (go_at_call 21; (with_reducible refine (addr_Before.calls t343 t344 t345 t346 false _ A125.out).mono ?_); rintro e w180 ⟨rfl, hb⟩; replace aa := Aside0.mk (ka6e7.q aa.out hb rfl); replace ab := Aside0.mk (ka6e7.q ab.out hb rfl); replace ac := Aside0.mk (ka6e7.q ac.out hb rfl); replace ae := Aside0.mk (ka6e7.q ae.out hb rfl); replace HB := Aside0.mk (below_step (by repeat (first | (with_reducible first | exact HB.out | apply below_alloc | apply pw_below_drewN | apply below_drew1 | refine below_set ?_ ag.out | refine below_set ?_ ah.out | refine below_set ?_ ai.out | refine below_set ?_ au.out) | exact HB.out)) hb); (try clear hb); (try clear a5); (try clear hk); (try clear hi)))
           go_ret
           exact ⟨by first | rfl | (simp [errW_none, errW_some] <;> rfl) | (simp [*, errW_none, errW_some] <;> rfl), by repeat (first | (with_reducible first | exact HB.out | apply below_alloc | apply pw_below_drewN | apply below_drew1 | refine below_set ?_ ag.out | refine below_set ?_ ah.out | refine below_set ?_ ai.out | refine below_set ?_ au.out) | exact HB.out)⟩
         ·rw [if_neg a7] at H
          have c124b0 : ((t359 != t360) == t363) = false := by simpa using a7
          try (have c124b09 : ((!(t359 == t360)) == t363) = false := c124b0)
          (try (have c124b1 : decide ((t359 != t360) = t363) = false := by simpa using a7))
          (try (have c124b2 : ((t359 != t360) == t363) = false := by simpa using a7))
          (try (have c124b3 : ¬ ((t359 != t360) = t363) := by simpa using a7))
          clear a7
          obtain rfl := Option.some.inj H
          have hnb181 := av.out
          have hnc181 := aq.out
          have hnb182 := ax.out
          have hnc182 := ay.out
          have hcz183_0 : wc.cell? ⟨aj, 0, none⟩ = some (.int .u32 t343) := (blk_cell ab.out 0).trans rfl
          have hcz183_1 : wc.cell? ⟨aj, 1, none⟩ = some (.int .i64 t344) := (blk_cell ab.out 1).trans rfl
          have hfz183_0 := blk_frozen ab.out 0
          have hfz183_1 := blk_frozen ab.out 1
          have hnb184 := aw.out
          have hnc184 := ar.out
          have hcz185_0 : wc.cell? ⟨ak, 0, none⟩ = some (.int .u32 t345) := (blk_cell ac.out 0).trans rfl
          have hcz185_1 : wc.cell? ⟨ak, 1, none⟩ = some (.int .i64 t346) := (blk_cell ac.out 1).trans rfl
          have hfz185_0 := blk_frozen ac.out 0
          have hfz185_1 := blk_frozen ac.out 1
          try go_wp2_with (first | ((with_reducible refine gate_callee (f := 25) rfl ?_); refine goesL_ (some 59) rfl rfl Try.func25 (by kernel_rfl) rfl #[.agg #[.int .u32 t343, .int .i64 t344], .agg #[.int .u32 t345, .int .i64 t346]] rfl (by (try simp only [List.map_toArray, List.map_cons, List.map_nil]); first | done | rfl) ?_; (with_reducible refine (addr_Above.calls bb t343 t344 t345 t346 t355 t356 t357 _ a8.out).mono ?_); rintro e w186 ⟨rfl, hb⟩; refine ⟨_, rfl, ?_⟩; replace aa := Aside0.mk (ka6e7.q aa.out hb rfl); replace ab := Aside0.mk (ka6e7.q ab.out hb rfl); replace ac := Aside0.mk (ka6e7.q ac.out hb rfl); replace HB := Aside0.mk (below_step (by repeat (first | (with_reducible first | exact HB.out | apply below_alloc | apply pw_below_drewN | apply below_drew1 | refine below_set ?_ ag.out | refine below_set ?_ ah.out | refine below_set ?_ ai.out) | exact HB.out)) hb); (try clear hb); (try clear a5); (try clear hk); (try clear hi)) | ((with_reducible refine gate_dst (N := 8) rfl ?_); refine box_event ?hg (N := 8) ?hd (cs := #[.int .u32 0, .int .i64 0]) (t := 30) ?hr ?_; (case hd => rfl); (case hg => rfl); (case hr => first | (go_simp; done) | (go_simp; rfl)); intro ad hg w187 hbox hb; have n0_ := Aside0.mk (ka6e7.q aa.out hb rfl); have n1_ := Aside0.mk (ka6e7.q ab.out hb rfl); have n2_ := Aside0.mk (ka6e7.q ac.out hb rfl); have n3_ := Aside0.mk (below_step (by repeat (first | (with_reducible first | exact HB.out | apply below_alloc | apply pw_below_drewN | apply below_drew1 | refine below_set ?_ ag.out | refine below_set ?_ ah.out | refine below_set ?_ ai.out) | exact HB.out)) hb); have n4_ := Aside0.mk (hbox); have n5_ := Aside0.mk ((by rw [hg]; exact (below_size (by repeat (first | (with_reducible first | exact HB.out | apply below_alloc | apply pw_below_drewN | apply below_drew1 | refine below_set ?_ ag.out | refine below_set ?_ ah.out | refine below_set ?_ ai.out) | exact HB.out))) : w.heap.size ≤ ad)); have n6_ := Aside0.mk ((by rw [hg]; exact (below_size (by repeat (first | (with_reducible first | exact HB.out | apply below_alloc | apply pw_below_drewN | apply below_drew1 | refine below_set ?_ ag.out | refine below_set ?_ ah.out | refine below_set ?_ ai.out) | exact HB.out))) : w.heap.size ≤ ad)); have n7_ := Aside0.mk ((by rw [hg]; exact Nat.ne_of_lt (blk_lt (g := af) (o := .cells #[.int .u32 am, .int .i64 al] 30 (0, 0)) (by (with_reducible repeat (first | refine blk_drewN ?_ _ | refine blk_drew ?_ | refine blk_alloc ?_ _)); exact aa.out)) : af ≠ ad)); have n8_ := Aside0.mk ((by rw [hg]; exact Nat.ne_of_gt (blk_lt (g := af) (o := .cells #[.int .u32 am, .int .i64 al] 30 (0, 0)) (by (with_reducible repeat (first | refine blk_drewN ?_ _ | refine blk_drew ?_ | refine blk_alloc ?_ _)); exact aa.out)) : ad ≠ af)); have n9_ := Aside0.mk ((by rw [hg]; exact Nat.ne_of_lt (blk_lt (g := aj) (o := .cells #[.int .u32 t343, .int .i64 t344] 30 (0, 0)) (by (with_reducible repeat (first | refine blk_drewN ?_ _ | refine blk_drew ?_ | refine blk_alloc ?_ _)); exact ab.out)) : aj ≠ ad)); have n10_ := Aside0.mk ((by rw [hg]; exact Nat.ne_of_gt (blk_lt (g := aj) (o := .cells #[.int .u32 t343, .int .i64 t344] 30 (0, 0)) (by (with_reducible repeat (first | refine blk_drewN ?_ _ | refine blk_drew ?_ | refine blk_alloc ?_ _)); exact ab.out)) : ad ≠ aj)); have n11_ := Aside0.mk ((by rw [hg]; exact Nat.ne_of_lt (blk_lt (g := ak) (o := .cells #[.int .u32 t345, .int .i64 t346] 30 (0, 0)) (by (with_reducible repeat (first | refine blk_drewN ?_ _ | refine blk_drew ?_ | refine blk_alloc ?_ _)); exact ac.out)) : ak ≠ ad)); have n12_ := Aside0.mk ((by rw [hg]; exact Nat.ne_of_gt (blk_lt (g := ak) (o := .cells #[.int .u32 t345, .int .i64 t346] 30 (0, 0)) (by (with_reducible repeat (first | refine blk_drewN ?_ _ | refine blk_drew ?_ | refine blk_alloc ?_ _)); exact ac.out)) : ad ≠ ak)); clear aa; clear ab; clear ac; clear HB; have aa := n0_; have ab := n1_; have ac := n2_; have HB := n3_; have ae := n4_; have GW358 := n5_; have au := n6_; have an := n7_; have az := n8_; have ao := n9_; have a3 := n10_; have ap := n11_; have a4 := n12_; clear n0_ n1_ n2_ n3_ n4_ n5_ n6_ n7_ n8_ n9_ n10_ n11_ n12_; clear hb hbox hg; have hnb188 := az.out; have hnc188 := an.out; have hnb189 := a3.out; have hnc189 := ao.out; have hnb190 := a4.out; have hnc190 := ap.out; have hcz191_0 : w187.cell? ⟨ad, 0, none⟩ = some (.int .u32 0) := (blk_cell ae.out 0).trans rfl; have hcz191_1 : w187.cell? ⟨ad, 1, none⟩ = some (.int .i64 0) := (blk_cell ae.out 1).trans rfl; have hfz191_0 := blk_frozen ae.out 0; have hfz191_1 := blk_frozen ae.out 1))
          have n0_ : Aside0 (((w187.setCell ⟨ad, 0, none⟩ (.int .u32 t355)).setCell ⟨ad, 1, none⟩ (.int .i64 t356)).heap[af]? = some (.cells #[.int .u32 am, .int .i64 al] 30 (0, 0))) := ⟨by (with_reducible repeat (first | refine blk_drewN ?_ _ | refine blk_drew ?_ | refine blk_alloc ?_ _)); refine blk_far ?_ an.out _; (with_reducible repeat (first | refine blk_drewN ?_ _ | refine blk_drew ?_ | refine blk_alloc ?_ _)); refine blk_far ?_ an.out _; (with_reducible repeat (first | refine blk_drewN ?_ _ | refine blk_drew ?_ | refine blk_alloc ?_ _)); exact aa.out⟩
          have n1_ : Aside0 (((w187.setCell ⟨ad, 0, none⟩ (.int .u32 t355)).setCell ⟨ad, 1, none⟩ (.int .i64 t356)).heap[aj]? = some (.cells #[.int .u32 t343, .int .i64 t344] 30 (0, 0))) := ⟨by (with_reducible repeat (first | refine blk_drewN ?_ _ | refine blk_drew ?_ | refine blk_alloc ?_ _)); refine blk_far ?_ ao.out _; (with_reducible repeat (first | refine blk_drewN ?_ _ | refine blk_drew ?_ | refine blk_alloc ?_ _)); refine blk_far ?_ ao.out _; (with_reducible repeat (first | refine blk_drewN ?_ _ | refine blk_drew ?_ | refine blk_alloc ?_ _)); exact ab.out⟩
          have n2_ : Aside0 (((w187.setCell ⟨ad, 0, none⟩ (.int .u32 t355)).setCell ⟨ad, 1, none⟩ (.int .i64 t356)).heap[ak]? = some (.cells #[.int .u32 t345, .int .i64 t346] 30 (0, 0))) := ⟨by (with_reducible repeat (first | refine blk_drewN ?_ _ | refine blk_drew ?_ | refine blk_alloc ?_ _)); refine blk_far ?_ ap.out _; (with_reducible repeat (first | refine blk_drewN ?_ _ | refine blk_drew ?_ | refine blk_alloc ?_ _)); refine blk_far ?_ ap.out _; (with_reducible repeat (first | refine blk_drewN ?_ _ | refine blk_drew ?_ | refine blk_alloc ?_ _)); exact ac.out⟩
          have n3_ : Aside0 (((w187.setCell ⟨ad, 0, none⟩ (.int .u32 t355)).setCell ⟨ad, 1, none⟩ (.int .i64 t356)).heap[ad]? = some (.cells #[.int .u32 t355, .int .i64 t356] 30 (0, 0))) := ⟨by (with_reducible repeat (first | refine blk_drewN ?_ _ | refine blk_drew ?_ | refine blk_alloc ?_ _)); refine blk_put (cs := #[.int .u32 t355, .int .i64 0]) ?_ 1 _ rfl; (with_reducible repeat (first | refine blk_drewN ?_ _ | refine blk_drew ?_ | refine blk_alloc ?_ _)); refine blk_put (cs := #[.int .u32 0, .int .i64 0]) ?_ 0 _ rfl; (with_reducible repeat (first | refine blk_drewN ?_ _ | refine blk_drew ?_ | refine blk_alloc ?_ _)); exact ae.out⟩
          have n4_ : Aside0 (Below w.heap.size w ((w187.setCell ⟨ad, 0, none⟩ (.int .u32 t355)).setCell ⟨ad, 1, none⟩ (.int .i64 t356))) := ⟨by repeat (first | (with_reducible first | exact HB.out | apply below_alloc | apply pw_below_drewN | apply below_drew1 | refine below_set ?_ ag.out | refine below_set ?_ ah.out | refine below_set ?_ ai.out | refine below_set ?_ au.out) | exact HB.out)⟩
          (try clear aa)
          (try clear ab)
          (try clear ac)
          (try clear ae)
          (try clear HB)
          generalize ((w187.setCell ⟨ad, 0, none⟩ (.int .u32 t355)).setCell ⟨ad, 1, none⟩ (.int .i64 t356)) = w192 at n0_ n1_ n2_ n3_ n4_ ⊢
          have aa := n0_
          have ab := n1_
          have ac := n2_
          have ae := n3_
          have HB := n4_
          clear n0_ n1_ n2_ n3_ n4_
          replace aa := Aside0.mk (blk_drew aa.out)
          replace ab := Aside0.mk (blk_drew ab.out)
          replace ac := Aside0.mk (blk_drew ac.out)
          replace ae := Aside0.mk (blk_drew ae.out)
          replace HB := Aside0.mk (below_drew1 HB.out)
          refine start_ (n := 8) (S := ka6e7.S0 aj ak (.int .u32 t343) (.int .i64 t344) (.int .u32 t345) (.int .i64 t346)) (ds := []) #[false, false, false, false, false, false, false, false] (by kernel_rfl) rfl rfl (ka6e7.b2 ab.out (ka6e7.b2e ac.out)) (fun hHeld => ?_); refine with_tabW whirligiglaw01_AddrHalves.tab5 whirligiglaw01_AddrHalves.bits5 (fun HT_ HW_ => ?_)
          generalize w192.drew = w193 at aa ab ac ae HB hHeld ⊢
          refine pure_ (i := 1) (N := some 63) (v := ?_) (a' := ?_) #[false, true, false, false, false, false, false, false] rfl rfl (any_of HT_.out (by kernel_rfl)) (fun _ _ _ h => h) (Or.inl ⟨by rfl, ?_⟩) ?_ ?_
          rotate_left
          ·intro w'
           go_simp
           with_reducible rfl
          rotate_left
          ·simp only [Act.put, List.setIfInBounds_toArray, List.set_cons_zero, List.set_cons_succ, i64_w]
           rfl
          refine pure_ (i := 4) (N := some 66) (v := ?_) (a' := ?_) #[false, true, false, false, true, false, false, false] rfl rfl (any_of HT_.out (by kernel_rfl)) (fun _ _ _ h => h) (Or.inl ⟨by rfl, ?_⟩) ?_ ?_
          rotate_left
          ·intro w'
           go_simp
           with_reducible rfl
          rotate_left
          ·simp only [Act.put, List.setIfInBounds_toArray, List.set_cons_zero, List.set_cons_succ, i64_w]
           rfl
          refine take_ (i := 0) (N := some 62) (v := ?_) (a' := ?_) #[true, true, false, false, true, false, false, false] rfl rfl (take_ofW HT_.out HW_.out (by kernel_rfl)) (fun _ _ _ h => h) (Or.inl ⟨by rfl, ?_⟩) hHeld ?_ ?_
          rotate_left
          ·rintro w' ⟨s0, s1, s2, s3⟩
           go_simp
           with_reducible rfl
          rotate_left
          ·simp only [Act.put, List.setIfInBounds_toArray, List.set_cons_zero, List.set_cons_succ, i64_w]
           rfl
          refine take_ (i := 3) (N := some 65) (v := ?_) (a' := ?_) #[true, true, false, true, true, false, false, false] rfl rfl (take_ofW HT_.out HW_.out (by kernel_rfl)) (fun _ _ _ h => h) (Or.inl ⟨by rfl, ?_⟩) hHeld ?_ ?_
          rotate_left
          ·rintro w' ⟨s0, s1, s2, s3⟩
           go_simp
           with_reducible rfl
          rotate_left
          ·simp only [Act.put, List.setIfInBounds_toArray, List.set_cons_zero, List.set_cons_succ, i64_w]
           rfl
          refine one_ (i := 2) (N := some 64) #[true, true, true, true, true, false, false, false] rfl rfl (one_of HT_.out (by kernel_rfl)) (by decide) (fun K hK => ?_)
          refine goes_ Try.func17 (by kernel_rfl) rfl #[.agg #[.int .u32 t343, .int .i64 t344], .int .u32 a1] (by rfl) rfl rfl (by (try simp only [List.map_toArray, List.map_cons, List.map_nil]); first | done | rfl) ?_
          with_reducible refine (addr_Has.calls t343 t344 a1 t359 _ a9.out).mono ?_
          rintro e w194 ⟨rfl, hb⟩
          refine ⟨_, rfl, ?_⟩
          replace aa := Aside0.mk (ka6e7.q aa.out hb rfl)
          replace ab := Aside0.mk (ka6e7.q ab.out hb rfl)
          replace ac := Aside0.mk (ka6e7.q ac.out hb rfl)
          replace ae := Aside0.mk (ka6e7.q ae.out hb rfl)
          replace HB := Aside0.mk (below_step (by repeat (first | (with_reducible first | exact HB.out | apply below_alloc | apply pw_below_drewN | apply below_drew1 | refine below_set ?_ ag.out | refine below_set ?_ ah.out | refine below_set ?_ ai.out | refine below_set ?_ au.out) | exact HB.out)) hb)
          (try clear hb)
          (try clear a5)
          (try clear hk)
          (try clear hi)
          refine hK.out _ _ (ka6e7.b2 ab.out (ka6e7.b2e ac.out)) (fun hHeld => ?_)
          clear hK K
          refine norm_ (a' := ?_) ?_ ?_
          rotate_left
          ·show Act.put _ (some 64) _ = _
           simp only [Act.put, List.setIfInBounds_toArray, List.set_cons_zero, List.set_cons_succ, i64_w]
           rfl
          refine one_ (i := 5) (N := some 67) #[true, true, true, true, true, true, false, false] rfl rfl (one_of HT_.out (by kernel_rfl)) (by decide) (fun K hK => ?_)
          refine goes_ Try.func17 (by kernel_rfl) rfl #[.agg #[.int .u32 t345, .int .i64 t346], .int .u32 a1] (by rfl) rfl rfl (by (try simp only [List.map_toArray, List.map_cons, List.map_nil]); first | done | rfl) ?_
          with_reducible refine (addr_Has.calls t345 t346 a1 t360 _ ba.out).mono ?_
          rintro e w195 ⟨rfl, hb⟩
          refine ⟨_, rfl, ?_⟩
          replace aa := Aside0.mk (ka6e7.q aa.out hb rfl)
          replace ab := Aside0.mk (ka6e7.q ab.out hb rfl)
          replace ac := Aside0.mk (ka6e7.q ac.out hb rfl)
          replace ae := Aside0.mk (ka6e7.q ae.out hb rfl)
          replace HB := Aside0.mk (below_step (by repeat (first | (with_reducible first | exact HB.out | apply below_alloc | apply pw_below_drewN | apply below_drew1 | refine below_set ?_ ag.out | refine below_set ?_ ah.out | refine below_set ?_ ai.out | refine below_set ?_ au.out) | exact HB.out)) hb)
          (try clear hb)
          (try clear a5)
          (try clear hk)
          (try clear hi)
          refine hK.out _ _ (ka6e7.b2 ab.out (ka6e7.b2e ac.out)) (fun hHeld => ?_)
          clear hK K
          refine norm_ (a' := ?_) ?_ ?_
          rotate_left
          ·show Act.put _ (some 67) _ = _
           simp only [Act.put, List.setIfInBounds_toArray, List.set_cons_zero, List.set_cons_succ, i64_w]
           rfl
          refine pure_ (i := 6) (N := some 68) (v := ?_) (a' := ?_) #[true, true, true, true, true, true, true, false] rfl rfl (any_of HT_.out (by kernel_rfl)) (fun _ _ _ h => h) (Or.inl ⟨by rfl, ?_⟩) ?_ ?_
          rotate_left
          ·intro w'
           go_simp
           with_reducible rfl
          rotate_left
          ·simp only [Act.put, List.setIfInBounds_toArray, List.set_cons_zero, List.set_cons_succ, i64_w]
           rfl
          refine pure_ (i := 7) (N := some 10) (v := ?_) (a' := ?_) #[true, true, true, true, true, true, true, true] rfl rfl (any_of HT_.out (by kernel_rfl)) (fun _ _ _ h => h) (Or.inl ⟨by rfl, ?_⟩) ?_ ?_
          rotate_left
          ·intro w'
           go_simp
           with_reducible rfl
          rotate_left
          ·simp only [Act.put, List.setIfInBounds_toArray, List.set_cons_zero, List.set_cons_succ, i64_w]
           rfl
          refine done_ (done_of HT_.out (by kernel_rfl)) ?_
          have hcz196_0 : w195.cell? ⟨ad, 0, none⟩ = some (.int .u32 t355) := (blk_cell ae.out 0).trans rfl
          have hcz196_1 : w195.cell? ⟨ad, 1, none⟩ = some (.int .i64 t356) := (blk_cell ae.out 1).trans rfl
          have hfz196_0 := blk_frozen ae.out 0
          have hfz196_1 := blk_frozen ae.out 1
          have hcz197_0 : w195.cell? ⟨af, 0, none⟩ = some (.int .u32 am) := (blk_cell aa.out 0).trans rfl
          have hcz197_1 : w195.cell? ⟨af, 1, none⟩ = some (.int .i64 al) := (blk_cell aa.out 1).trans rfl
          have hfz197_0 := blk_frozen aa.out 0
          have hfz197_1 := blk_frozen aa.out 1
          have hcz198_0 : w195.cell? ⟨aj, 0, none⟩ = some (.int .u32 t343) := (blk_cell ab.out 0).trans rfl
          have hcz198_1 : w195.cell? ⟨aj, 1, none⟩ = some (.int .i64 t344) := (blk_cell ab.out 1).trans rfl
          have hfz198_0 := blk_frozen ab.out 0
          have hfz198_1 := blk_frozen ab.out 1
          try go_wp2_with (first | (go_at_call 27; (with_reducible refine (addr_May.calls t343 t344 true _ A119.out).mono ?_); rintro e w199 ⟨rfl, hb⟩; replace aa := Aside0.mk (ka6e7.q aa.out hb rfl); replace ab := Aside0.mk (ka6e7.q ab.out hb rfl); replace ac := Aside0.mk (ka6e7.q ac.out hb rfl); replace ae := Aside0.mk (ka6e7.q ae.out hb rfl); replace HB := Aside0.mk (below_step (by repeat (first | (with_reducible first | exact HB.out | apply below_alloc | apply pw_below_drewN | apply below_drew1 | refine below_set ?_ ag.out | refine below_set ?_ ah.out | refine below_set ?_ ai.out | refine below_set ?_ au.out) | exact HB.out)) hb); (try clear hb); (try clear a5); (try clear hk); (try clear hi); have hcz200_0 : w199.cell? ⟨ak, 0, none⟩ = some (.int .u32 t345) := (blk_cell ac.out 0).trans rfl; have hcz200_1 : w199.cell? ⟨ak, 1, none⟩ = some (.int .i64 t346) := (blk_cell ac.out 1).trans rfl; have hfz200_0 := blk_frozen ac.out 0; have hfz200_1 := blk_frozen ac.out 1) | (go_at_call 27; (with_reducible refine (addr_May.calls t345 t346 true _ A121.out).mono ?_); rintro e w201 ⟨rfl, hb⟩; replace aa := Aside0.mk (ka6e7.q aa.out hb rfl); replace ab := Aside0.mk (ka6e7.q ab.out hb rfl); replace ac := Aside0.mk (ka6e7.q ac.out hb rfl); replace ae := Aside0.mk (ka6e7.q ae.out hb rfl); replace HB := Aside0.mk (below_step (by repeat (first | (with_reducible first | exact HB.out | apply below_alloc | apply pw_below_drewN | apply below_drew1 | refine below_set ?_ ag.out | refine below_set ?_ ah.out | refine below_set ?_ ai.out | refine below_set ?_ au.out) | exact HB.out)) hb); (try clear hb); (try clear a5); (try clear hk); (try clear hi); have hcz202_0 : w201.cell? ⟨af, 0, none⟩ = some (.int .u32 am) := (blk_cell aa.out 0).trans rfl; have hcz202_1 : w201.cell? ⟨af, 1, none⟩ = some (.int .i64 al) := (blk_cell aa.out 1).trans rfl; have hfz202_0 := blk_frozen aa.out 0; have hfz202_1 := blk_frozen aa.out 1) | (go_at_call 17; (with_reducible refine (addr_Has.calls am al a1 t363 _ A123.out).mono ?_); rintro e w203 ⟨rfl, hb⟩; replace aa := Aside0.mk (ka6e7.q aa.out hb rfl); replace ab := Aside0.mk (ka6e7.q ab.out hb rfl); replace ac := Aside0.mk (ka6e7.q ac.out hb rfl); replace ae := Aside0.mk (ka6e7.q ae.out hb rfl); replace HB := Aside0.mk (below_step (by repeat (first | (with_reducible first | exact HB.out | apply below_alloc | apply pw_below_drewN | apply below_drew1 | refine below_set ?_ ag.out | refine below_set ?_ ah.out | refine below_set ?_ ai.out | refine below_set ?_ au.out) | exact HB.out)) hb); (try clear hb); (try clear a5); (try clear hk); (try clear hi)))
          go_ret
          exact ⟨by first | rfl | (simp [errW_none, errW_some] <;> rfl) | (simp [*, errW_none, errW_some] <;> rfl), by repeat (first | (with_reducible first | exact HB.out | apply below_alloc | apply pw_below_drewN | apply below_drew1 | refine below_set ?_ ag.out | refine below_set ?_ ah.out | refine below_set ?_ ai.out | refine below_set ?_ au.out) | exact HB.out)⟩
        ·replace c122 := Bool.eq_false_iff.mpr c122
         subst c122
         have H1 : (some false) = some r := by rw [if_neg (show ¬ (false = true) by decide)] at H; exact H
         clear H
         have H := H1
         clear H1
         obtain rfl := Option.some.inj H
         have hnb204 := av.out
         have hnc204 := aq.out
         have hnb205 := ax.out
         have hnc205 := ay.out
         have hcz206_0 : wc.cell? ⟨aj, 0, none⟩ = some (.int .u32 t343) := (blk_cell ab.out 0).trans rfl
         have hcz206_1 : wc.cell? ⟨aj, 1, none⟩ = some (.int .i64 t344) := (blk_cell ab.out 1).trans rfl
         have hfz206_0 := blk_frozen ab.out 0
         have hfz206_1 := blk_frozen ab.out 1
         have hnb207 := aw.out
         have hnc207 := ar.out
         have hcz208_0 : wc.cell? ⟨ak, 0, none⟩ = some (.int .u32 t345) := (blk_cell ac.out 0).trans rfl
         have hcz208_1 : wc.cell? ⟨ak, 1, none⟩ = some (.int .i64 t346) := (blk_cell ac.out 1).trans rfl
         have hfz208_0 := blk_frozen ac.out 0
         have hfz208_1 := blk_frozen ac.out 1
         try go_wp2_with (first | ((with_reducible refine gate_callee (f := 25) rfl ?_); refine goesL_ (some 59) rfl rfl Try.func25 (by kernel_rfl) rfl #[.agg #[.int .u32 t343, .int .i64 t344], .agg #[.int .u32 t345, .int .i64 t346]] rfl (by (try simp only [List.map_toArray, List.map_cons, List.map_nil]); first | done | rfl) ?_; (with_reducible refine (addr_Above.calls bb t343 t344 t345 t346 t355 t356 t357 _ a8.out).mono ?_); rintro e w209 ⟨rfl, hb⟩; refine ⟨_, rfl, ?_⟩; replace aa := Aside0.mk (ka6e7.q aa.out hb rfl); replace ab := Aside0.mk (ka6e7.q ab.out hb rfl); replace ac := Aside0.mk (ka6e7.q ac.out hb rfl); replace HB := Aside0.mk (below_step (by repeat (first | (with_reducible first | exact HB.out | apply below_alloc | apply pw_below_drewN | apply below_drew1 | refine below_set ?_ ag.out | refine below_set ?_ ah.out | refine below_set ?_ ai.out) | exact HB.out)) hb); (try clear hb); (try clear a5); (try clear hk); (try clear hi)) | ((with_reducible refine gate_dst (N := 8) rfl ?_); refine box_event ?hg (N := 8) ?hd (cs := #[.int .u32 0, .int .i64 0]) (t := 30) ?hr ?_; (case hd => rfl); (case hg => rfl); (case hr => first | (go_simp; done) | (go_simp; rfl)); intro ad hg w210 hbox hb; have n0_ := Aside0.mk (ka6e7.q aa.out hb rfl); have n1_ := Aside0.mk (ka6e7.q ab.out hb rfl); have n2_ := Aside0.mk (ka6e7.q ac.out hb rfl); have n3_ := Aside0.mk (below_step (by repeat (first | (with_reducible first | exact HB.out | apply below_alloc | apply pw_below_drewN | apply below_drew1 | refine below_set ?_ ag.out | refine below_set ?_ ah.out | refine below_set ?_ ai.out) | exact HB.out)) hb); have n4_ := Aside0.mk (hbox); have n5_ := Aside0.mk ((by rw [hg]; exact (below_size (by repeat (first | (with_reducible first | exact HB.out | apply below_alloc | apply pw_below_drewN | apply below_drew1 | refine below_set ?_ ag.out | refine below_set ?_ ah.out | refine below_set ?_ ai.out) | exact HB.out))) : w.heap.size ≤ ad)); have n6_ := Aside0.mk ((by rw [hg]; exact (below_size (by repeat (first | (with_reducible first | exact HB.out | apply below_alloc | apply pw_below_drewN | apply below_drew1 | refine below_set ?_ ag.out | refine below_set ?_ ah.out | refine below_set ?_ ai.out) | exact HB.out))) : w.heap.size ≤ ad)); have n7_ := Aside0.mk ((by rw [hg]; exact Nat.ne_of_lt (blk_lt (g := af) (o := .cells #[.int .u32 am, .int .i64 al] 30 (0, 0)) (by (with_reducible repeat (first | refine blk_drewN ?_ _ | refine blk_drew ?_ | refine blk_alloc ?_ _)); exact aa.out)) : af ≠ ad)); have n8_ := Aside0.mk ((by rw [hg]; exact Nat.ne_of_gt (blk_lt (g := af) (o := .cells #[.int .u32 am, .int .i64 al] 30 (0, 0)) (by (with_reducible repeat (first | refine blk_drewN ?_ _ | refine blk_drew ?_ | refine blk_alloc ?_ _)); exact aa.out)) : ad ≠ af)); have n9_ := Aside0.mk ((by rw [hg]; exact Nat.ne_of_lt (blk_lt (g := aj) (o := .cells #[.int .u32 t343, .int .i64 t344] 30 (0, 0)) (by (with_reducible repeat (first | refine blk_drewN ?_ _ | refine blk_drew ?_ | refine blk_alloc ?_ _)); exact ab.out)) : aj ≠ ad)); have n10_ := Aside0.mk ((by rw [hg]; exact Nat.ne_of_gt (blk_lt (g := aj) (o := .cells #[.int .u32 t343, .int .i64 t344] 30 (0, 0)) (by (with_reducible repeat (first | refine blk_drewN ?_ _ | refine blk_drew ?_ | refine blk_alloc ?_ _)); exact ab.out)) : ad ≠ aj)); have n11_ := Aside0.mk ((by rw [hg]; exact Nat.ne_of_lt (blk_lt (g := ak) (o := .cells #[.int .u32 t345, .int .i64 t346] 30 (0, 0)) (by (with_reducible repeat (first | refine blk_drewN ?_ _ | refine blk_drew ?_ | refine blk_alloc ?_ _)); exact ac.out)) : ak ≠ ad)); have n12_ := Aside0.mk ((by rw [hg]; exact Nat.ne_of_gt (blk_lt (g := ak) (o := .cells #[.int .u32 t345, .int .i64 t346] 30 (0, 0)) (by (with_reducible repeat (first | refine blk_drewN ?_ _ | refine blk_drew ?_ | refine blk_alloc ?_ _)); exact ac.out)) : ad ≠ ak)); clear aa; clear ab; clear ac; clear HB; have aa := n0_; have ab := n1_; have ac := n2_; have HB := n3_; have ae := n4_; have GW358 := n5_; have au := n6_; have an := n7_; have az := n8_; have ao := n9_; have a3 := n10_; have ap := n11_; have a4 := n12_; clear n0_ n1_ n2_ n3_ n4_ n5_ n6_ n7_ n8_ n9_ n10_ n11_ n12_; clear hb hbox hg; have hnb211 := az.out; have hnc211 := an.out; have hnb212 := a3.out; have hnc212 := ao.out; have hnb213 := a4.out; have hnc213 := ap.out; have hcz214_0 : w210.cell? ⟨ad, 0, none⟩ = some (.int .u32 0) := (blk_cell ae.out 0).trans rfl; have hcz214_1 : w210.cell? ⟨ad, 1, none⟩ = some (.int .i64 0) := (blk_cell ae.out 1).trans rfl; have hfz214_0 := blk_frozen ae.out 0; have hfz214_1 := blk_frozen ae.out 1))
         have n0_ : Aside0 (((w210.setCell ⟨ad, 0, none⟩ (.int .u32 t355)).setCell ⟨ad, 1, none⟩ (.int .i64 t356)).heap[af]? = some (.cells #[.int .u32 am, .int .i64 al] 30 (0, 0))) := ⟨by (with_reducible repeat (first | refine blk_drewN ?_ _ | refine blk_drew ?_ | refine blk_alloc ?_ _)); refine blk_far ?_ an.out _; (with_reducible repeat (first | refine blk_drewN ?_ _ | refine blk_drew ?_ | refine blk_alloc ?_ _)); refine blk_far ?_ an.out _; (with_reducible repeat (first | refine blk_drewN ?_ _ | refine blk_drew ?_ | refine blk_alloc ?_ _)); exact aa.out⟩
         have n1_ : Aside0 (((w210.setCell ⟨ad, 0, none⟩ (.int .u32 t355)).setCell ⟨ad, 1, none⟩ (.int .i64 t356)).heap[aj]? = some (.cells #[.int .u32 t343, .int .i64 t344] 30 (0, 0))) := ⟨by (with_reducible repeat (first | refine blk_drewN ?_ _ | refine blk_drew ?_ | refine blk_alloc ?_ _)); refine blk_far ?_ ao.out _; (with_reducible repeat (first | refine blk_drewN ?_ _ | refine blk_drew ?_ | refine blk_alloc ?_ _)); refine blk_far ?_ ao.out _; (with_reducible repeat (first | refine blk_drewN ?_ _ | refine blk_drew ?_ | refine blk_alloc ?_ _)); exact ab.out⟩
         have n2_ : Aside0 (((w210.setCell ⟨ad, 0, none⟩ (.int .u32 t355)).setCell ⟨ad, 1, none⟩ (.int .i64 t356)).heap[ak]? = some (.cells #[.int .u32 t345, .int .i64 t346] 30 (0, 0))) := ⟨by (with_reducible repeat (first | refine blk_drewN ?_ _ | refine blk_drew ?_ | refine blk_alloc ?_ _)); refine blk_far ?_ ap.out _; (with_reducible repeat (first | refine blk_drewN ?_ _ | refine blk_drew ?_ | refine blk_alloc ?_ _)); refine blk_far ?_ ap.out _; (with_reducible repeat (first | refine blk_drewN ?_ _ | refine blk_drew ?_ | refine blk_alloc ?_ _)); exact ac.out⟩
         have n3_ : Aside0 (((w210.setCell ⟨ad, 0, none⟩ (.int .u32 t355)).setCell ⟨ad, 1, none⟩ (.int .i64 t356)).heap[ad]? = some (.cells #[.int .u32 t355, .int .i64 t356] 30 (0, 0))) := ⟨by (with_reducible repeat (first | refine blk_drewN ?_ _ | refine blk_drew ?_ | refine blk_alloc ?_ _)); refine blk_put (cs := #[.int .u32 t355, .int .i64 0]) ?_ 1 _ rfl; (with_reducible repeat (first | refine blk_drewN ?_ _ | refine blk_drew ?_ | refine blk_alloc ?_ _)); refine blk_put (cs := #[.int .u32 0, .int .i64 0]) ?_ 0 _ rfl; (with_reducible repeat (first | refine blk_drewN ?_ _ | refine blk_drew ?_ | refine blk_alloc ?_ _)); exact ae.out⟩
         have n4_ : Aside0 (Below w.heap.size w ((w210.setCell ⟨ad, 0, none⟩ (.int .u32 t355)).setCell ⟨ad, 1, none⟩ (.int .i64 t356))) := ⟨by repeat (first | (with_reducible first | exact HB.out | apply below_alloc | apply pw_below_drewN | apply below_drew1 | refine below_set ?_ ag.out | refine below_set ?_ ah.out | refine below_set ?_ ai.out | refine below_set ?_ au.out) | exact HB.out)⟩
         (try clear aa)
         (try clear ab)
         (try clear ac)
         (try clear ae)
         (try clear HB)
         generalize ((w210.setCell ⟨ad, 0, none⟩ (.int .u32 t355)).setCell ⟨ad, 1, none⟩ (.int .i64 t356)) = w215 at n0_ n1_ n2_ n3_ n4_ ⊢
         have aa := n0_
         have ab := n1_
         have ac := n2_
         have ae := n3_
         have HB := n4_
         clear n0_ n1_ n2_ n3_ n4_
         replace aa := Aside0.mk (blk_drew aa.out)
         replace ab := Aside0.mk (blk_drew ab.out)
         replace ac := Aside0.mk (blk_drew ac.out)
         replace ae := Aside0.mk (blk_drew ae.out)
         replace HB := Aside0.mk (below_drew1 HB.out)
         refine start_ (n := 8) (S := ka6e7.S0 aj ak (.int .u32 t343) (.int .i64 t344) (.int .u32 t345) (.int .i64 t346)) (ds := []) #[false, false, false, false, false, false, false, false] (by kernel_rfl) rfl rfl (ka6e7.b2 ab.out (ka6e7.b2e ac.out)) (fun hHeld => ?_); refine with_tabW whirligiglaw01_AddrHalves.tab5 whirligiglaw01_AddrHalves.bits5 (fun HT_ HW_ => ?_)
         generalize w215.drew = w216 at aa ab ac ae HB hHeld ⊢
         refine pure_ (i := 1) (N := some 63) (v := ?_) (a' := ?_) #[false, true, false, false, false, false, false, false] rfl rfl (any_of HT_.out (by kernel_rfl)) (fun _ _ _ h => h) (Or.inl ⟨by rfl, ?_⟩) ?_ ?_
         rotate_left
         ·intro w'
          go_simp
          with_reducible rfl
         rotate_left
         ·simp only [Act.put, List.setIfInBounds_toArray, List.set_cons_zero, List.set_cons_succ, i64_w]
          rfl
         refine pure_ (i := 4) (N := some 66) (v := ?_) (a' := ?_) #[false, true, false, false, true, false, false, false] rfl rfl (any_of HT_.out (by kernel_rfl)) (fun _ _ _ h => h) (Or.inl ⟨by rfl, ?_⟩) ?_ ?_
         rotate_left
         ·intro w'
          go_simp
          with_reducible rfl
         rotate_left
         ·simp only [Act.put, List.setIfInBounds_toArray, List.set_cons_zero, List.set_cons_succ, i64_w]
          rfl
         refine take_ (i := 0) (N := some 62) (v := ?_) (a' := ?_) #[true, true, false, false, true, false, false, false] rfl rfl (take_ofW HT_.out HW_.out (by kernel_rfl)) (fun _ _ _ h => h) (Or.inl ⟨by rfl, ?_⟩) hHeld ?_ ?_
         rotate_left
         ·rintro w' ⟨s0, s1, s2, s3⟩
          go_simp
          with_reducible rfl
         rotate_left
         ·simp only [Act.put, List.setIfInBounds_toArray, List.set_cons_zero, List.set_cons_succ, i64_w]
          rfl
         refine take_ (i := 3) (N := some 65) (v := ?_) (a' := ?_) #[true, true, false, true, true, false, false, false] rfl rfl (take_ofW HT_.out HW_.out (by kernel_rfl)) (fun _ _ _ h => h) (Or.inl ⟨by rfl, ?_⟩) hHeld ?_ ?_
         rotate_left
         ·rintro w' ⟨s0, s1, s2, s3⟩
          go_simp
          with_reducible rfl
         rotate_left
         ·simp only [Act.put, List.setIfInBounds_toArray, List.set_cons_zero, List.set_cons_succ, i64_w]
          rfl
         refine one_ (i := 2) (N := some 64) #[true, true, true, true, true, false, false, false] rfl rfl (one_of HT_.out (by kernel_rfl)) (by decide) (fun K hK => ?_)
         refine goes_ Try.func17 (by kernel_rfl) rfl #[.agg #[.int .u32 t343, .int .i64 t344], .int .u32 a1] (by rfl) rfl rfl (by (try simp only [List.map_toArray, List.map_cons, List.map_nil]); first | done | rfl) ?_
         with_reducible refine (addr_Has.calls t343 t344 a1 t359 _ a9.out).mono ?_
         rintro e w217 ⟨rfl, hb⟩
         refine ⟨_, rfl, ?_⟩
         replace aa := Aside0.mk (ka6e7.q aa.out hb rfl)
         replace ab := Aside0.mk (ka6e7.q ab.out hb rfl)
         replace ac := Aside0.mk (ka6e7.q ac.out hb rfl)
         replace ae := Aside0.mk (ka6e7.q ae.out hb rfl)
         replace HB := Aside0.mk (below_step (by repeat (first | (with_reducible first | exact HB.out | apply below_alloc | apply pw_below_drewN | apply below_drew1 | refine below_set ?_ ag.out | refine below_set ?_ ah.out | refine below_set ?_ ai.out | refine below_set ?_ au.out) | exact HB.out)) hb)
         (try clear hb)
         (try clear a5)
         (try clear hk)
         (try clear hi)
         refine hK.out _ _ (ka6e7.b2 ab.out (ka6e7.b2e ac.out)) (fun hHeld => ?_)
         clear hK K
         refine norm_ (a' := ?_) ?_ ?_
         rotate_left
         ·show Act.put _ (some 64) _ = _
          simp only [Act.put, List.setIfInBounds_toArray, List.set_cons_zero, List.set_cons_succ, i64_w]
          rfl
         refine one_ (i := 5) (N := some 67) #[true, true, true, true, true, true, false, false] rfl rfl (one_of HT_.out (by kernel_rfl)) (by decide) (fun K hK => ?_)
         refine goes_ Try.func17 (by kernel_rfl) rfl #[.agg #[.int .u32 t345, .int .i64 t346], .int .u32 a1] (by rfl) rfl rfl (by (try simp only [List.map_toArray, List.map_cons, List.map_nil]); first | done | rfl) ?_
         with_reducible refine (addr_Has.calls t345 t346 a1 t360 _ ba.out).mono ?_
         rintro e w218 ⟨rfl, hb⟩
         refine ⟨_, rfl, ?_⟩
         replace aa := Aside0.mk (ka6e7.q aa.out hb rfl)
         replace ab := Aside0.mk (ka6e7.q ab.out hb rfl)
         replace ac := Aside0.mk (ka6e7.q ac.out hb rfl)
         replace ae := Aside0.mk (ka6e7.q ae.out hb rfl)
         replace HB := Aside0.mk (below_step (by repeat (first | (with_reducible first | exact HB.out | apply below_alloc | apply pw_below_drewN | apply below_drew1 | refine below_set ?_ ag.out | refine below_set ?_ ah.out | refine below_set ?_ ai.out | refine below_set ?_ au.out) | exact HB.out)) hb)
         (try clear hb)
         (try clear a5)
         (try clear hk)
         (try clear hi)
         refine hK.out _ _ (ka6e7.b2 ab.out (ka6e7.b2e ac.out)) (fun hHeld => ?_)
         clear hK K
         refine norm_ (a' := ?_) ?_ ?_
         rotate_left
         ·show Act.put _ (some 67) _ = _
          simp only [Act.put, List.setIfInBounds_toArray, List.set_cons_zero, List.set_cons_succ, i64_w]
          rfl
         refine pure_ (i := 6) (N := some 68) (v := ?_) (a' := ?_) #[true, true, true, true, true, true, true, false] rfl rfl (any_of HT_.out (by kernel_rfl)) (fun _ _ _ h => h) (Or.inl ⟨by rfl, ?_⟩) ?_ ?_
         rotate_left
         ·intro w'
          go_simp
          with_reducible rfl
         rotate_left
         ·simp only [Act.put, List.setIfInBounds_toArray, List.set_cons_zero, List.set_cons_succ, i64_w]
          rfl
         refine pure_ (i := 7) (N := some 10) (v := ?_) (a' := ?_) #[true, true, true, true, true, true, true, true] rfl rfl (any_of HT_.out (by kernel_rfl)) (fun _ _ _ h => h) (Or.inl ⟨by rfl, ?_⟩) ?_ ?_
         rotate_left
         ·intro w'
          go_simp
          with_reducible rfl
         rotate_left
         ·simp only [Act.put, List.setIfInBounds_toArray, List.set_cons_zero, List.set_cons_succ, i64_w]
          rfl
         refine done_ (done_of HT_.out (by kernel_rfl)) ?_
         have hcz219_0 : w218.cell? ⟨ad, 0, none⟩ = some (.int .u32 t355) := (blk_cell ae.out 0).trans rfl
         have hcz219_1 : w218.cell? ⟨ad, 1, none⟩ = some (.int .i64 t356) := (blk_cell ae.out 1).trans rfl
         have hfz219_0 := blk_frozen ae.out 0
         have hfz219_1 := blk_frozen ae.out 1
         have hcz220_0 : w218.cell? ⟨af, 0, none⟩ = some (.int .u32 am) := (blk_cell aa.out 0).trans rfl
         have hcz220_1 : w218.cell? ⟨af, 1, none⟩ = some (.int .i64 al) := (blk_cell aa.out 1).trans rfl
         have hfz220_0 := blk_frozen aa.out 0
         have hfz220_1 := blk_frozen aa.out 1
         have hcz221_0 : w218.cell? ⟨aj, 0, none⟩ = some (.int .u32 t343) := (blk_cell ab.out 0).trans rfl
         have hcz221_1 : w218.cell? ⟨aj, 1, none⟩ = some (.int .i64 t344) := (blk_cell ab.out 1).trans rfl
         have hfz221_0 := blk_frozen ab.out 0
         have hfz221_1 := blk_frozen ab.out 1
         try go_wp2_with (first | (go_at_call 27; (with_reducible refine (addr_May.calls t343 t344 true _ A119.out).mono ?_); rintro e w222 ⟨rfl, hb⟩; replace aa := Aside0.mk (ka6e7.q aa.out hb rfl); replace ab := Aside0.mk (ka6e7.q ab.out hb rfl); replace ac := Aside0.mk (ka6e7.q ac.out hb rfl); replace ae := Aside0.mk (ka6e7.q ae.out hb rfl); replace HB := Aside0.mk (below_step (by repeat (first | (with_reducible first | exact HB.out | apply below_alloc | apply pw_below_drewN | apply below_drew1 | refine below_set ?_ ag.out | refine below_set ?_ ah.out | refine below_set ?_ ai.out | refine below_set ?_ au.out) | exact HB.out)) hb); (try clear hb); (try clear a5); (try clear hk); (try clear hi); have hcz223_0 : w222.cell? ⟨ak, 0, none⟩ = some (.int .u32 t345) := (blk_cell ac.out 0).trans rfl; have hcz223_1 : w222.cell? ⟨ak, 1, none⟩ = some (.int .i64 t346) := (blk_cell ac.out 1).trans rfl; have hfz223_0 := blk_frozen ac.out 0; have hfz223_1 := blk_frozen ac.out 1) | (go_at_call 27; (with_reducible refine (addr_May.calls t345 t346 false _ A121.out).mono ?_); rintro e w224 ⟨rfl, hb⟩; replace aa := Aside0.mk (ka6e7.q aa.out hb rfl); replace ab := Aside0.mk (ka6e7.q ab.out hb rfl); replace ac := Aside0.mk (ka6e7.q ac.out hb rfl); replace ae := Aside0.mk (ka6e7.q ae.out hb rfl); replace HB := Aside0.mk (below_step (by repeat (first | (with_reducible first | exact HB.out | apply below_alloc | apply pw_below_drewN | apply below_drew1 | refine below_set ?_ ag.out | refine below_set ?_ ah.out | refine below_set ?_ ai.out | refine below_set ?_ au.out) | exact HB.out)) hb); (try clear hb); (try clear a5); (try clear hk); (try clear hi)))
         go_ret
         exact ⟨by first | rfl | (simp [errW_none, errW_some] <;> rfl) | (simp [*, errW_none, errW_some] <;> rfl), by repeat (first | (with_reducible first | exact HB.out | apply below_alloc | apply pw_below_drewN | apply below_drew1 | refine below_set ?_ ag.out | refine below_set ?_ ah.out | refine below_set ?_ ai.out | refine below_set ?_ au.out) | exact HB.out)⟩
       ·replace c120 := Bool.eq_false_iff.mpr c120
        subst c120
        have H1 : (some false) = some r := by rw [if_neg (show ¬ (false = true) by decide)] at H; exact H
        clear H
        have H := H1
        clear H1
        obtain rfl := Option.some.inj H
        have hnb225 := av.out
        have hnc225 := aq.out
        have hnb226 := ax.out
        have hnc226 := ay.out
        have hcz227_0 : wc.cell? ⟨aj, 0, none⟩ = some (.int .u32 t343) := (blk_cell ab.out 0).trans rfl
        have hcz227_1 : wc.cell? ⟨aj, 1, none⟩ = some (.int .i64 t344) := (blk_cell ab.out 1).trans rfl
        have hfz227_0 := blk_frozen ab.out 0
        have hfz227_1 := blk_frozen ab.out 1
        have hnb228 := aw.out
        have hnc228 := ar.out
        have hcz229_0 : wc.cell? ⟨ak, 0, none⟩ = some (.int .u32 t345) := (blk_cell ac.out 0).trans rfl
        have hcz229_1 : wc.cell? ⟨ak, 1, none⟩ = some (.int .i64 t346) := (blk_cell ac.out 1).trans rfl
        have hfz229_0 := blk_frozen ac.out 0
        have hfz229_1 := blk_frozen ac.out 1
        try go_wp2_with (first | ((with_reducible refine gate_callee (f := 25) rfl ?_); refine goesL_ (some 59) rfl rfl Try.func25 (by kernel_rfl) rfl #[.agg #[.int .u32 t343, .int .i64 t344], .agg #[.int .u32 t345, .int .i64 t346]] rfl (by (try simp only [List.map_toArray, List.map_cons, List.map_nil]); first | done | rfl) ?_; (with_reducible refine (addr_Above.calls bb t343 t344 t345 t346 t355 t356 t357 _ a8.out).mono ?_); rintro e w230 ⟨rfl, hb⟩; refine ⟨_, rfl, ?_⟩; replace aa := Aside0.mk (ka6e7.q aa.out hb rfl); replace ab := Aside0.mk (ka6e7.q ab.out hb rfl); replace ac := Aside0.mk (ka6e7.q ac.out hb rfl); replace HB := Aside0.mk (below_step (by repeat (first | (with_reducible first | exact HB.out | apply below_alloc | apply pw_below_drewN | apply below_drew1 | refine below_set ?_ ag.out | refine below_set ?_ ah.out | refine below_set ?_ ai.out) | exact HB.out)) hb); (try clear hb); (try clear a5); (try clear hk); (try clear hi)) | ((with_reducible refine gate_dst (N := 8) rfl ?_); refine box_event ?hg (N := 8) ?hd (cs := #[.int .u32 0, .int .i64 0]) (t := 30) ?hr ?_; (case hd => rfl); (case hg => rfl); (case hr => first | (go_simp; done) | (go_simp; rfl)); intro ad hg w231 hbox hb; have n0_ := Aside0.mk (ka6e7.q aa.out hb rfl); have n1_ := Aside0.mk (ka6e7.q ab.out hb rfl); have n2_ := Aside0.mk (ka6e7.q ac.out hb rfl); have n3_ := Aside0.mk (below_step (by repeat (first | (with_reducible first | exact HB.out | apply below_alloc | apply pw_below_drewN | apply below_drew1 | refine below_set ?_ ag.out | refine below_set ?_ ah.out | refine below_set ?_ ai.out) | exact HB.out)) hb); have n4_ := Aside0.mk (hbox); have n5_ := Aside0.mk ((by rw [hg]; exact (below_size (by repeat (first | (with_reducible first | exact HB.out | apply below_alloc | apply pw_below_drewN | apply below_drew1 | refine below_set ?_ ag.out | refine below_set ?_ ah.out | refine below_set ?_ ai.out) | exact HB.out))) : w.heap.size ≤ ad)); have n6_ := Aside0.mk ((by rw [hg]; exact (below_size (by repeat (first | (with_reducible first | exact HB.out | apply below_alloc | apply pw_below_drewN | apply below_drew1 | refine below_set ?_ ag.out | refine below_set ?_ ah.out | refine below_set ?_ ai.out) | exact HB.out))) : w.heap.size ≤ ad)); have n7_ := Aside0.mk ((by rw [hg]; exact Nat.ne_of_lt (blk_lt (g := af) (o := .cells #[.int .u32 am, .int .i64 al] 30 (0, 0)) (by (with_reducible repeat (first | refine blk_drewN ?_ _ | refine blk_drew ?_ | refine blk_alloc ?_ _)); exact aa.out)) : af ≠ ad)); have n8_ := Aside0.mk ((by rw [hg]; exact Nat.ne_of_gt (blk_lt (g := af) (o := .cells #[.int .u32 am, .int .i64 al] 30 (0, 0)) (by (with_reducible repeat (first | refine blk_drewN ?_ _ | refine blk_drew ?_ | refine blk_alloc ?_ _)); exact aa.out)) : ad ≠ af)); have n9_ := Aside0.mk ((by rw [hg]; exact Nat.ne_of_lt (blk_lt (g := aj) (o := .cells #[.int .u32 t343, .int .i64 t344] 30 (0, 0)) (by (with_reducible repeat (first | refine blk_drewN ?_ _ | refine blk_drew ?_ | refine blk_alloc ?_ _)); exact ab.out)) : aj ≠ ad)); have n10_ := Aside0.mk ((by rw [hg]; exact Nat.ne_of_gt (blk_lt (g := aj) (o := .cells #[.int .u32 t343, .int .i64 t344] 30 (0, 0)) (by (with_reducible repeat (first | refine blk_drewN ?_ _ | refine blk_drew ?_ | refine blk_alloc ?_ _)); exact ab.out)) : ad ≠ aj)); have n11_ := Aside0.mk ((by rw [hg]; exact Nat.ne_of_lt (blk_lt (g := ak) (o := .cells #[.int .u32 t345, .int .i64 t346] 30 (0, 0)) (by (with_reducible repeat (first | refine blk_drewN ?_ _ | refine blk_drew ?_ | refine blk_alloc ?_ _)); exact ac.out)) : ak ≠ ad)); have n12_ := Aside0.mk ((by rw [hg]; exact Nat.ne_of_gt (blk_lt (g := ak) (o := .cells #[.int .u32 t345, .int .i64 t346] 30 (0, 0)) (by (with_reducible repeat (first | refine blk_drewN ?_ _ | refine blk_drew ?_ | refine blk_alloc ?_ _)); exact ac.out)) : ad ≠ ak)); clear aa; clear ab; clear ac; clear HB; have aa := n0_; have ab := n1_; have ac := n2_; have HB := n3_; have ae := n4_; have GW358 := n5_; have au := n6_; have an := n7_; have az := n8_; have ao := n9_; have a3 := n10_; have ap := n11_; have a4 := n12_; clear n0_ n1_ n2_ n3_ n4_ n5_ n6_ n7_ n8_ n9_ n10_ n11_ n12_; clear hb hbox hg; have hnb232 := az.out; have hnc232 := an.out; have hnb233 := a3.out; have hnc233 := ao.out; have hnb234 := a4.out; have hnc234 := ap.out; have hcz235_0 : w231.cell? ⟨ad, 0, none⟩ = some (.int .u32 0) := (blk_cell ae.out 0).trans rfl; have hcz235_1 : w231.cell? ⟨ad, 1, none⟩ = some (.int .i64 0) := (blk_cell ae.out 1).trans rfl; have hfz235_0 := blk_frozen ae.out 0; have hfz235_1 := blk_frozen ae.out 1))
        have n0_ : Aside0 (((w231.setCell ⟨ad, 0, none⟩ (.int .u32 t355)).setCell ⟨ad, 1, none⟩ (.int .i64 t356)).heap[af]? = some (.cells #[.int .u32 am, .int .i64 al] 30 (0, 0))) := ⟨by (with_reducible repeat (first | refine blk_drewN ?_ _ | refine blk_drew ?_ | refine blk_alloc ?_ _)); refine blk_far ?_ an.out _; (with_reducible repeat (first | refine blk_drewN ?_ _ | refine blk_drew ?_ | refine blk_alloc ?_ _)); refine blk_far ?_ an.out _; (with_reducible repeat (first | refine blk_drewN ?_ _ | refine blk_drew ?_ | refine blk_alloc ?_ _)); exact aa.out⟩
        have n1_ : Aside0 (((w231.setCell ⟨ad, 0, none⟩ (.int .u32 t355)).setCell ⟨ad, 1, none⟩ (.int .i64 t356)).heap[aj]? = some (.cells #[.int .u32 t343, .int .i64 t344] 30 (0, 0))) := ⟨by (with_reducible repeat (first | refine blk_drewN ?_ _ | refine blk_drew ?_ | refine blk_alloc ?_ _)); refine blk_far ?_ ao.out _; (with_reducible repeat (first | refine blk_drewN ?_ _ | refine blk_drew ?_ | refine blk_alloc ?_ _)); refine blk_far ?_ ao.out _; (with_reducible repeat (first | refine blk_drewN ?_ _ | refine blk_drew ?_ | refine blk_alloc ?_ _)); exact ab.out⟩
        have n2_ : Aside0 (((w231.setCell ⟨ad, 0, none⟩ (.int .u32 t355)).setCell ⟨ad, 1, none⟩ (.int .i64 t356)).heap[ak]? = some (.cells #[.int .u32 t345, .int .i64 t346] 30 (0, 0))) := ⟨by (with_reducible repeat (first | refine blk_drewN ?_ _ | refine blk_drew ?_ | refine blk_alloc ?_ _)); refine blk_far ?_ ap.out _; (with_reducible repeat (first | refine blk_drewN ?_ _ | refine blk_drew ?_ | refine blk_alloc ?_ _)); refine blk_far ?_ ap.out _; (with_reducible repeat (first | refine blk_drewN ?_ _ | refine blk_drew ?_ | refine blk_alloc ?_ _)); exact ac.out⟩
        have n3_ : Aside0 (((w231.setCell ⟨ad, 0, none⟩ (.int .u32 t355)).setCell ⟨ad, 1, none⟩ (.int .i64 t356)).heap[ad]? = some (.cells #[.int .u32 t355, .int .i64 t356] 30 (0, 0))) := ⟨by (with_reducible repeat (first | refine blk_drewN ?_ _ | refine blk_drew ?_ | refine blk_alloc ?_ _)); refine blk_put (cs := #[.int .u32 t355, .int .i64 0]) ?_ 1 _ rfl; (with_reducible repeat (first | refine blk_drewN ?_ _ | refine blk_drew ?_ | refine blk_alloc ?_ _)); refine blk_put (cs := #[.int .u32 0, .int .i64 0]) ?_ 0 _ rfl; (with_reducible repeat (first | refine blk_drewN ?_ _ | refine blk_drew ?_ | refine blk_alloc ?_ _)); exact ae.out⟩
        have n4_ : Aside0 (Below w.heap.size w ((w231.setCell ⟨ad, 0, none⟩ (.int .u32 t355)).setCell ⟨ad, 1, none⟩ (.int .i64 t356))) := ⟨by repeat (first | (with_reducible first | exact HB.out | apply below_alloc | apply pw_below_drewN | apply below_drew1 | refine below_set ?_ ag.out | refine below_set ?_ ah.out | refine below_set ?_ ai.out | refine below_set ?_ au.out) | exact HB.out)⟩
        (try clear aa)
        (try clear ab)
        (try clear ac)
        (try clear ae)
        (try clear HB)
        generalize ((w231.setCell ⟨ad, 0, none⟩ (.int .u32 t355)).setCell ⟨ad, 1, none⟩ (.int .i64 t356)) = w236 at n0_ n1_ n2_ n3_ n4_ ⊢
        have aa := n0_
        have ab := n1_
        have ac := n2_
        have ae := n3_
        have HB := n4_
        clear n0_ n1_ n2_ n3_ n4_
        replace aa := Aside0.mk (blk_drew aa.out)
        replace ab := Aside0.mk (blk_drew ab.out)
        replace ac := Aside0.mk (blk_drew ac.out)
        replace ae := Aside0.mk (blk_drew ae.out)
        replace HB := Aside0.mk (below_drew1 HB.out)
        refine start_ (n := 8) (S := ka6e7.S0 aj ak (.int .u32 t343) (.int .i64 t344) (.int .u32 t345) (.int .i64 t346)) (ds := []) #[false, false, false, false, false, false, false, false] (by kernel_rfl) rfl rfl (ka6e7.b2 ab.out (ka6e7.b2e ac.out)) (fun hHeld => ?_); refine with_tabW whirligiglaw01_AddrHalves.tab5 whirligiglaw01_AddrHalves.bits5 (fun HT_ HW_ => ?_)
        generalize w236.drew = w237 at aa ab ac ae HB hHeld ⊢
        refine pure_ (i := 1) (N := some 63) (v := ?_) (a' := ?_) #[false, true, false, false, false, false, false, false] rfl rfl (any_of HT_.out (by kernel_rfl)) (fun _ _ _ h => h) (Or.inl ⟨by rfl, ?_⟩) ?_ ?_
        rotate_left
        ·intro w'
         go_simp
         with_reducible rfl
        rotate_left
        ·simp only [Act.put, List.setIfInBounds_toArray, List.set_cons_zero, List.set_cons_succ, i64_w]
         rfl
        refine pure_ (i := 4) (N := some 66) (v := ?_) (a' := ?_) #[false, true, false, false, true, false, false, false] rfl rfl (any_of HT_.out (by kernel_rfl)) (fun _ _ _ h => h) (Or.inl ⟨by rfl, ?_⟩) ?_ ?_
        rotate_left
        ·intro w'
         go_simp
         with_reducible rfl
        rotate_left
        ·simp only [Act.put, List.setIfInBounds_toArray, List.set_cons_zero, List.set_cons_succ, i64_w]
         rfl
        refine take_ (i := 0) (N := some 62) (v := ?_) (a' := ?_) #[true, true, false, false, true, false, false, false] rfl rfl (take_ofW HT_.out HW_.out (by kernel_rfl)) (fun _ _ _ h => h) (Or.inl ⟨by rfl, ?_⟩) hHeld ?_ ?_
        rotate_left
        ·rintro w' ⟨s0, s1, s2, s3⟩
         go_simp
         with_reducible rfl
        rotate_left
        ·simp only [Act.put, List.setIfInBounds_toArray, List.set_cons_zero, List.set_cons_succ, i64_w]
         rfl
        refine take_ (i := 3) (N := some 65) (v := ?_) (a' := ?_) #[true, true, false, true, true, false, false, false] rfl rfl (take_ofW HT_.out HW_.out (by kernel_rfl)) (fun _ _ _ h => h) (Or.inl ⟨by rfl, ?_⟩) hHeld ?_ ?_
        rotate_left
        ·rintro w' ⟨s0, s1, s2, s3⟩
         go_simp
         with_reducible rfl
        rotate_left
        ·simp only [Act.put, List.setIfInBounds_toArray, List.set_cons_zero, List.set_cons_succ, i64_w]
         rfl
        refine one_ (i := 2) (N := some 64) #[true, true, true, true, true, false, false, false] rfl rfl (one_of HT_.out (by kernel_rfl)) (by decide) (fun K hK => ?_)
        refine goes_ Try.func17 (by kernel_rfl) rfl #[.agg #[.int .u32 t343, .int .i64 t344], .int .u32 a1] (by rfl) rfl rfl (by (try simp only [List.map_toArray, List.map_cons, List.map_nil]); first | done | rfl) ?_
        with_reducible refine (addr_Has.calls t343 t344 a1 t359 _ a9.out).mono ?_
        rintro e w238 ⟨rfl, hb⟩
        refine ⟨_, rfl, ?_⟩
        replace aa := Aside0.mk (ka6e7.q aa.out hb rfl)
        replace ab := Aside0.mk (ka6e7.q ab.out hb rfl)
        replace ac := Aside0.mk (ka6e7.q ac.out hb rfl)
        replace ae := Aside0.mk (ka6e7.q ae.out hb rfl)
        replace HB := Aside0.mk (below_step (by repeat (first | (with_reducible first | exact HB.out | apply below_alloc | apply pw_below_drewN | apply below_drew1 | refine below_set ?_ ag.out | refine below_set ?_ ah.out | refine below_set ?_ ai.out | refine below_set ?_ au.out) | exact HB.out)) hb)
        (try clear hb)
        (try clear a5)
        (try clear hk)
        (try clear hi)
        refine hK.out _ _ (ka6e7.b2 ab.out (ka6e7.b2e ac.out)) (fun hHeld => ?_)
        clear hK K
        refine norm_ (a' := ?_) ?_ ?_
        rotate_left
        ·show Act.put _ (some 64) _ = _
         simp only [Act.put, List.setIfInBounds_toArray, List.set_cons_zero, List.set_cons_succ, i64_w]
         rfl
        refine one_ (i := 5) (N := some 67) #[true, true, true, true, true, true, false, false] rfl rfl (one_of HT_.out (by kernel_rfl)) (by decide) (fun K hK => ?_)
        refine goes_ Try.func17 (by kernel_rfl) rfl #[.agg #[.int .u32 t345, .int .i64 t346], .int .u32 a1] (by rfl) rfl rfl (by (try simp only [List.map_toArray, List.map_cons, List.map_nil]); first | done | rfl) ?_
        with_reducible refine (addr_Has.calls t345 t346 a1 t360 _ ba.out).mono ?_
        rintro e w239 ⟨rfl, hb⟩
        refine ⟨_, rfl, ?_⟩
        replace aa := Aside0.mk (ka6e7.q aa.out hb rfl)
        replace ab := Aside0.mk (ka6e7.q ab.out hb rfl)
        replace ac := Aside0.mk (ka6e7.q ac.out hb rfl)
        replace ae := Aside0.mk (ka6e7.q ae.out hb rfl)
        replace HB := Aside0.mk (below_step (by repeat (first | (with_reducible first | exact HB.out | apply below_alloc | apply pw_below_drewN | apply below_drew1 | refine below_set ?_ ag.out | refine below_set ?_ ah.out | refine below_set ?_ ai.out | refine below_set ?_ au.out) | exact HB.out)) hb)
        (try clear hb)
        (try clear a5)
        (try clear hk)
        (try clear hi)
        refine hK.out _ _ (ka6e7.b2 ab.out (ka6e7.b2e ac.out)) (fun hHeld => ?_)
        clear hK K
        refine norm_ (a' := ?_) ?_ ?_
        rotate_left
        ·show Act.put _ (some 67) _ = _
         simp only [Act.put, List.setIfInBounds_toArray, List.set_cons_zero, List.set_cons_succ, i64_w]
         rfl
        refine pure_ (i := 6) (N := some 68) (v := ?_) (a' := ?_) #[true, true, true, true, true, true, true, false] rfl rfl (any_of HT_.out (by kernel_rfl)) (fun _ _ _ h => h) (Or.inl ⟨by rfl, ?_⟩) ?_ ?_
        rotate_left
        ·intro w'
         go_simp
         with_reducible rfl
        rotate_left
        ·simp only [Act.put, List.setIfInBounds_toArray, List.set_cons_zero, List.set_cons_succ, i64_w]
         rfl
        refine pure_ (i := 7) (N := some 10) (v := ?_) (a' := ?_) #[true, true, true, true, true, true, true, true] rfl rfl (any_of HT_.out (by kernel_rfl)) (fun _ _ _ h => h) (Or.inl ⟨by rfl, ?_⟩) ?_ ?_
        rotate_left
        ·intro w'
         go_simp
         with_reducible rfl
        rotate_left
        ·simp only [Act.put, List.setIfInBounds_toArray, List.set_cons_zero, List.set_cons_succ, i64_w]
         rfl
        refine done_ (done_of HT_.out (by kernel_rfl)) ?_
        have hcz240_0 : w239.cell? ⟨ad, 0, none⟩ = some (.int .u32 t355) := (blk_cell ae.out 0).trans rfl
        have hcz240_1 : w239.cell? ⟨ad, 1, none⟩ = some (.int .i64 t356) := (blk_cell ae.out 1).trans rfl
        have hfz240_0 := blk_frozen ae.out 0
        have hfz240_1 := blk_frozen ae.out 1
        have hcz241_0 : w239.cell? ⟨af, 0, none⟩ = some (.int .u32 am) := (blk_cell aa.out 0).trans rfl
        have hcz241_1 : w239.cell? ⟨af, 1, none⟩ = some (.int .i64 al) := (blk_cell aa.out 1).trans rfl
        have hfz241_0 := blk_frozen aa.out 0
        have hfz241_1 := blk_frozen aa.out 1
        have hcz242_0 : w239.cell? ⟨aj, 0, none⟩ = some (.int .u32 t343) := (blk_cell ab.out 0).trans rfl
        have hcz242_1 : w239.cell? ⟨aj, 1, none⟩ = some (.int .i64 t344) := (blk_cell ab.out 1).trans rfl
        have hfz242_0 := blk_frozen ab.out 0
        have hfz242_1 := blk_frozen ab.out 1
        try go_wp2_with (first | (go_at_call 27; (with_reducible refine (addr_May.calls t343 t344 false _ A119.out).mono ?_); rintro e w243 ⟨rfl, hb⟩; replace aa := Aside0.mk (ka6e7.q aa.out hb rfl); replace ab := Aside0.mk (ka6e7.q ab.out hb rfl); replace ac := Aside0.mk (ka6e7.q ac.out hb rfl); replace ae := Aside0.mk (ka6e7.q ae.out hb rfl); replace HB := Aside0.mk (below_step (by repeat (first | (with_reducible first | exact HB.out | apply below_alloc | apply pw_below_drewN | apply below_drew1 | refine below_set ?_ ag.out | refine below_set ?_ ah.out | refine below_set ?_ ai.out | refine below_set ?_ au.out) | exact HB.out)) hb); (try clear hb); (try clear a5); (try clear hk); (try clear hi)))
        go_ret
        exact ⟨by first | rfl | (simp [errW_none, errW_some] <;> rfl) | (simp [*, errW_none, errW_some] <;> rfl), by repeat (first | (with_reducible first | exact HB.out | apply below_alloc | apply pw_below_drewN | apply below_drew1 | refine below_set ?_ ag.out | refine below_set ?_ ah.out | refine below_set ?_ ai.out | refine below_set ?_ au.out) | exact HB.out)⟩
      ·rw [if_neg a6] at H
       have c118b0 : (t355 == am && (t356 == al)) = false := by simpa using a6
       (try (have c118b1 : decide (t355 = am && (t356 == al)) = false := by simpa using a6))
       (try (have c118b2 : (t355 == am && (t356 == al)) = false := by simpa using a6))
       (try (have c118b3 : ¬ (t355 = am && (t356 == al)) := by simpa using a6))
       clear a6
       obtain rfl := Option.some.inj H
       have hnb244 := av.out
       have hnc244 := aq.out
       have hnb245 := ax.out
       have hnc245 := ay.out
       have hcz246_0 : wc.cell? ⟨aj, 0, none⟩ = some (.int .u32 t343) := (blk_cell ab.out 0).trans rfl
       have hcz246_1 : wc.cell? ⟨aj, 1, none⟩ = some (.int .i64 t344) := (blk_cell ab.out 1).trans rfl
       have hfz246_0 := blk_frozen ab.out 0
       have hfz246_1 := blk_frozen ab.out 1
       have hnb247 := aw.out
       have hnc247 := ar.out
       have hcz248_0 : wc.cell? ⟨ak, 0, none⟩ = some (.int .u32 t345) := (blk_cell ac.out 0).trans rfl
       have hcz248_1 : wc.cell? ⟨ak, 1, none⟩ = some (.int .i64 t346) := (blk_cell ac.out 1).trans rfl
       have hfz248_0 := blk_frozen ac.out 0
       have hfz248_1 := blk_frozen ac.out 1
       try go_wp2_with (first | ((with_reducible refine gate_callee (f := 25) rfl ?_); refine goesL_ (some 59) rfl rfl Try.func25 (by kernel_rfl) rfl #[.agg #[.int .u32 t343, .int .i64 t344], .agg #[.int .u32 t345, .int .i64 t346]] rfl (by (try simp only [List.map_toArray, List.map_cons, List.map_nil]); first | done | rfl) ?_; (with_reducible refine (addr_Above.calls bb t343 t344 t345 t346 t355 t356 t357 _ a8.out).mono ?_); rintro e w249 ⟨rfl, hb⟩; refine ⟨_, rfl, ?_⟩; replace aa := Aside0.mk (ka6e7.q aa.out hb rfl); replace ab := Aside0.mk (ka6e7.q ab.out hb rfl); replace ac := Aside0.mk (ka6e7.q ac.out hb rfl); replace HB := Aside0.mk (below_step (by repeat (first | (with_reducible first | exact HB.out | apply below_alloc | apply pw_below_drewN | apply below_drew1 | refine below_set ?_ ag.out | refine below_set ?_ ah.out | refine below_set ?_ ai.out) | exact HB.out)) hb); (try clear hb); (try clear a5); (try clear hk); (try clear hi)) | ((with_reducible refine gate_dst (N := 8) rfl ?_); refine box_event ?hg (N := 8) ?hd (cs := #[.int .u32 0, .int .i64 0]) (t := 30) ?hr ?_; (case hd => rfl); (case hg => rfl); (case hr => first | (go_simp; done) | (go_simp; rfl)); intro ad hg w250 hbox hb; have n0_ := Aside0.mk (ka6e7.q aa.out hb rfl); have n1_ := Aside0.mk (ka6e7.q ab.out hb rfl); have n2_ := Aside0.mk (ka6e7.q ac.out hb rfl); have n3_ := Aside0.mk (below_step (by repeat (first | (with_reducible first | exact HB.out | apply below_alloc | apply pw_below_drewN | apply below_drew1 | refine below_set ?_ ag.out | refine below_set ?_ ah.out | refine below_set ?_ ai.out) | exact HB.out)) hb); have n4_ := Aside0.mk (hbox); have n5_ := Aside0.mk ((by rw [hg]; exact (below_size (by repeat (first | (with_reducible first | exact HB.out | apply below_alloc | apply pw_below_drewN | apply below_drew1 | refine below_set ?_ ag.out | refine below_set ?_ ah.out | refine below_set ?_ ai.out) | exact HB.out))) : w.heap.size ≤ ad)); have n6_ := Aside0.mk ((by rw [hg]; exact (below_size (by repeat (first | (with_reducible first | exact HB.out | apply below_alloc | apply pw_below_drewN | apply below_drew1 | refine below_set ?_ ag.out | refine below_set ?_ ah.out | refine below_set ?_ ai.out) | exact HB.out))) : w.heap.size ≤ ad)); have n7_ := Aside0.mk ((by rw [hg]; exact Nat.ne_of_lt (blk_lt (g := af) (o := .cells #[.int .u32 am, .int .i64 al] 30 (0, 0)) (by (with_reducible repeat (first | refine blk_drewN ?_ _ | refine blk_drew ?_ | refine blk_alloc ?_ _)); exact aa.out)) : af ≠ ad)); have n8_ := Aside0.mk ((by rw [hg]; exact Nat.ne_of_gt (blk_lt (g := af) (o := .cells #[.int .u32 am, .int .i64 al] 30 (0, 0)) (by (with_reducible repeat (first | refine blk_drewN ?_ _ | refine blk_drew ?_ | refine blk_alloc ?_ _)); exact aa.out)) : ad ≠ af)); have n9_ := Aside0.mk ((by rw [hg]; exact Nat.ne_of_lt (blk_lt (g := aj) (o := .cells #[.int .u32 t343, .int .i64 t344] 30 (0, 0)) (by (with_reducible repeat (first | refine blk_drewN ?_ _ | refine blk_drew ?_ | refine blk_alloc ?_ _)); exact ab.out)) : aj ≠ ad)); have n10_ := Aside0.mk ((by rw [hg]; exact Nat.ne_of_gt (blk_lt (g := aj) (o := .cells #[.int .u32 t343, .int .i64 t344] 30 (0, 0)) (by (with_reducible repeat (first | refine blk_drewN ?_ _ | refine blk_drew ?_ | refine blk_alloc ?_ _)); exact ab.out)) : ad ≠ aj)); have n11_ := Aside0.mk ((by rw [hg]; exact Nat.ne_of_lt (blk_lt (g := ak) (o := .cells #[.int .u32 t345, .int .i64 t346] 30 (0, 0)) (by (with_reducible repeat (first | refine blk_drewN ?_ _ | refine blk_drew ?_ | refine blk_alloc ?_ _)); exact ac.out)) : ak ≠ ad)); have n12_ := Aside0.mk ((by rw [hg]; exact Nat.ne_of_gt (blk_lt (g := ak) (o := .cells #[.int .u32 t345, .int .i64 t346] 30 (0, 0)) (by (with_reducible repeat (first | refine blk_drewN ?_ _ | refine blk_drew ?_ | refine blk_alloc ?_ _)); exact ac.out)) : ad ≠ ak)); clear aa; clear ab; clear ac; clear HB; have aa := n0_; have ab := n1_; have ac := n2_; have HB := n3_; have ae := n4_; have GW358 := n5_; have au := n6_; have an := n7_; have az := n8_; have ao := n9_; have a3 := n10_; have ap := n11_; have a4 := n12_; clear n0_ n1_ n2_ n3_ n4_ n5_ n6_ n7_ n8_ n9_ n10_ n11_ n12_; clear hb hbox hg; have hnb251 := az.out; have hnc251 := an.out; have hnb252 := a3.out; have hnc252 := ao.out; have hnb253 := a4.out; have hnc253 := ap.out; have hcz254_0 : w250.cell? ⟨ad, 0, none⟩ = some (.int .u32 0) := (blk_cell ae.out 0).trans rfl; have hcz254_1 : w250.cell? ⟨ad, 1, none⟩ = some (.int .i64 0) := (blk_cell ae.out 1).trans rfl; have hfz254_0 := blk_frozen ae.out 0; have hfz254_1 := blk_frozen ae.out 1))
       have n0_ : Aside0 (((w250.setCell ⟨ad, 0, none⟩ (.int .u32 t355)).setCell ⟨ad, 1, none⟩ (.int .i64 t356)).heap[af]? = some (.cells #[.int .u32 am, .int .i64 al] 30 (0, 0))) := ⟨by (with_reducible repeat (first | refine blk_drewN ?_ _ | refine blk_drew ?_ | refine blk_alloc ?_ _)); refine blk_far ?_ an.out _; (with_reducible repeat (first | refine blk_drewN ?_ _ | refine blk_drew ?_ | refine blk_alloc ?_ _)); refine blk_far ?_ an.out _; (with_reducible repeat (first | refine blk_drewN ?_ _ | refine blk_drew ?_ | refine blk_alloc ?_ _)); exact aa.out⟩
       have n1_ : Aside0 (((w250.setCell ⟨ad, 0, none⟩ (.int .u32 t355)).setCell ⟨ad, 1, none⟩ (.int .i64 t356)).heap[aj]? = some (.cells #[.int .u32 t343, .int .i64 t344] 30 (0, 0))) := ⟨by (with_reducible repeat (first | refine blk_drewN ?_ _ | refine blk_drew ?_ | refine blk_alloc ?_ _)); refine blk_far ?_ ao.out _; (with_reducible repeat (first | refine blk_drewN ?_ _ | refine blk_drew ?_ | refine blk_alloc ?_ _)); refine blk_far ?_ ao.out _; (with_reducible repeat (first | refine blk_drewN ?_ _ | refine blk_drew ?_ | refine blk_alloc ?_ _)); exact ab.out⟩
       have n2_ : Aside0 (((w250.setCell ⟨ad, 0, none⟩ (.int .u32 t355)).setCell ⟨ad, 1, none⟩ (.int .i64 t356)).heap[ak]? = some (.cells #[.int .u32 t345, .int .i64 t346] 30 (0, 0))) := ⟨by (with_reducible repeat (first | refine blk_drewN ?_ _ | refine blk_drew ?_ | refine blk_alloc ?_ _)); refine blk_far ?_ ap.out _; (with_reducible repeat (first | refine blk_drewN ?_ _ | refine blk_drew ?_ | refine blk_alloc ?_ _)); refine blk_far ?_ ap.out _; (with_reducible repeat (first | refine blk_drewN ?_ _ | refine blk_drew ?_ | refine blk_alloc ?_ _)); exact ac.out⟩
       have n3_ : Aside0 (((w250.setCell ⟨ad, 0, none⟩ (.int .u32 t355)).setCell ⟨ad, 1, none⟩ (.int .i64 t356)).heap[ad]? = some (.cells #[.int .u32 t355, .int .i64 t356] 30 (0, 0))) := ⟨by (with_reducible repeat (first | refine blk_drewN ?_ _ | refine blk_drew ?_ | refine blk_alloc ?_ _)); refine blk_put (cs := #[.int .u32 t355, .int .i64 0]) ?_ 1 _ rfl; (with_reducible repeat (first | refine blk_drewN ?_ _ | refine blk_drew ?_ | refine blk_alloc ?_ _)); refine blk_put (cs := #[.int .u32 0, .int .i64 0]) ?_ 0 _ rfl; (with_reducible repeat (first | refine blk_drewN ?_ _ | refine blk_drew ?_ | refine blk_alloc ?_ _)); exact ae.out⟩
       have n4_ : Aside0 (Below w.heap.size w ((w250.setCell ⟨ad, 0, none⟩ (.int .u32 t355)).setCell ⟨ad, 1, none⟩ (.int .i64 t356))) := ⟨by repeat (first | (with_reducible first | exact HB.out | apply below_alloc | apply pw_below_drewN | apply below_drew1 | refine below_set ?_ ag.out | refine below_set ?_ ah.out | refine below_set ?_ ai.out | refine below_set ?_ au.out) | exact HB.out)⟩
       (try clear aa)
       (try clear ab)
       (try clear ac)
       (try clear ae)
       (try clear HB)
       generalize ((w250.setCell ⟨ad, 0, none⟩ (.int .u32 t355)).setCell ⟨ad, 1, none⟩ (.int .i64 t356)) = w255 at n0_ n1_ n2_ n3_ n4_ ⊢
       have aa := n0_
       have ab := n1_
       have ac := n2_
       have ae := n3_
       have HB := n4_
       clear n0_ n1_ n2_ n3_ n4_
       replace aa := Aside0.mk (blk_drew aa.out)
       replace ab := Aside0.mk (blk_drew ab.out)
       replace ac := Aside0.mk (blk_drew ac.out)
       replace ae := Aside0.mk (blk_drew ae.out)
       replace HB := Aside0.mk (below_drew1 HB.out)
       refine start_ (n := 8) (S := ka6e7.S0 aj ak (.int .u32 t343) (.int .i64 t344) (.int .u32 t345) (.int .i64 t346)) (ds := []) #[false, false, false, false, false, false, false, false] (by kernel_rfl) rfl rfl (ka6e7.b2 ab.out (ka6e7.b2e ac.out)) (fun hHeld => ?_); refine with_tabW whirligiglaw01_AddrHalves.tab5 whirligiglaw01_AddrHalves.bits5 (fun HT_ HW_ => ?_)
       generalize w255.drew = w256 at aa ab ac ae HB hHeld ⊢
       refine pure_ (i := 1) (N := some 63) (v := ?_) (a' := ?_) #[false, true, false, false, false, false, false, false] rfl rfl (any_of HT_.out (by kernel_rfl)) (fun _ _ _ h => h) (Or.inl ⟨by rfl, ?_⟩) ?_ ?_
       rotate_left
       ·intro w'
        go_simp
        with_reducible rfl
       rotate_left
       ·simp only [Act.put, List.setIfInBounds_toArray, List.set_cons_zero, List.set_cons_succ, i64_w]
        rfl
       refine pure_ (i := 4) (N := some 66) (v := ?_) (a' := ?_) #[false, true, false, false, true, false, false, false] rfl rfl (any_of HT_.out (by kernel_rfl)) (fun _ _ _ h => h) (Or.inl ⟨by rfl, ?_⟩) ?_ ?_
       rotate_left
       ·intro w'
        go_simp
        with_reducible rfl
       rotate_left
       ·simp only [Act.put, List.setIfInBounds_toArray, List.set_cons_zero, List.set_cons_succ, i64_w]
        rfl
       refine take_ (i := 0) (N := some 62) (v := ?_) (a' := ?_) #[true, true, false, false, true, false, false, false] rfl rfl (take_ofW HT_.out HW_.out (by kernel_rfl)) (fun _ _ _ h => h) (Or.inl ⟨by rfl, ?_⟩) hHeld ?_ ?_
       rotate_left
       ·rintro w' ⟨s0, s1, s2, s3⟩
        go_simp
        with_reducible rfl
       rotate_left
       ·simp only [Act.put, List.setIfInBounds_toArray, List.set_cons_zero, List.set_cons_succ, i64_w]
        rfl
       refine take_ (i := 3) (N := some 65) (v := ?_) (a' := ?_) #[true, true, false, true, true, false, false, false] rfl rfl (take_ofW HT_.out HW_.out (by kernel_rfl)) (fun _ _ _ h => h) (Or.inl ⟨by rfl, ?_⟩) hHeld ?_ ?_
       rotate_left
       ·rintro w' ⟨s0, s1, s2, s3⟩
        go_simp
        with_reducible rfl
       rotate_left
       ·simp only [Act.put, List.setIfInBounds_toArray, List.set_cons_zero, List.set_cons_succ, i64_w]
        rfl
       refine one_ (i := 2) (N := some 64) #[true, true, true, true, true, false, false, false] rfl rfl (one_of HT_.out (by kernel_rfl)) (by decide) (fun K hK => ?_)
       refine goes_ Try.func17 (by kernel_rfl) rfl #[.agg #[.int .u32 t343, .int .i64 t344], .int .u32 a1] (by rfl) rfl rfl (by (try simp only [List.map_toArray, List.map_cons, List.map_nil]); first | done | rfl) ?_
       with_reducible refine (addr_Has.calls t343 t344 a1 t359 _ a9.out).mono ?_
       rintro e w257 ⟨rfl, hb⟩
       refine ⟨_, rfl, ?_⟩
       replace aa := Aside0.mk (ka6e7.q aa.out hb rfl)
       replace ab := Aside0.mk (ka6e7.q ab.out hb rfl)
       replace ac := Aside0.mk (ka6e7.q ac.out hb rfl)
       replace ae := Aside0.mk (ka6e7.q ae.out hb rfl)
       replace HB := Aside0.mk (below_step (by repeat (first | (with_reducible first | exact HB.out | apply below_alloc | apply pw_below_drewN | apply below_drew1 | refine below_set ?_ ag.out | refine below_set ?_ ah.out | refine below_set ?_ ai.out | refine below_set ?_ au.out) | exact HB.out)) hb)
       (try clear hb)
       (try clear a5)
       (try clear hk)
       (try clear hi)
       refine hK.out _ _ (ka6e7.b2 ab.out (ka6e7.b2e ac.out)) (fun hHeld => ?_)
       clear hK K
       refine norm_ (a' := ?_) ?_ ?_
       rotate_left
       ·show Act.put _ (some 64) _ = _
        simp only [Act.put, List.setIfInBounds_toArray, List.set_cons_zero, List.set_cons_succ, i64_w]
        rfl
       refine one_ (i := 5) (N := some 67) #[true, true, true, true, true, true, false, false] rfl rfl (one_of HT_.out (by kernel_rfl)) (by decide) (fun K hK => ?_)
       refine goes_ Try.func17 (by kernel_rfl) rfl #[.agg #[.int .u32 t345, .int .i64 t346], .int .u32 a1] (by rfl) rfl rfl (by (try simp only [List.map_toArray, List.map_cons, List.map_nil]); first | done | rfl) ?_
       with_reducible refine (addr_Has.calls t345 t346 a1 t360 _ ba.out).mono ?_
       rintro e w258 ⟨rfl, hb⟩
       refine ⟨_, rfl, ?_⟩
       replace aa := Aside0.mk (ka6e7.q aa.out hb rfl)
       replace ab := Aside0.mk (ka6e7.q ab.out hb rfl)
       replace ac := Aside0.mk (ka6e7.q ac.out hb rfl)
       replace ae := Aside0.mk (ka6e7.q ae.out hb rfl)
       replace HB := Aside0.mk (below_step (by repeat (first | (with_reducible first | exact HB.out | apply below_alloc | apply pw_below_drewN | apply below_drew1 | refine below_set ?_ ag.out | refine below_set ?_ ah.out | refine below_set ?_ ai.out | refine below_set ?_ au.out) | exact HB.out)) hb)
       (try clear hb)
       (try clear a5)
       (try clear hk)
       (try clear hi)
       refine hK.out _ _ (ka6e7.b2 ab.out (ka6e7.b2e ac.out)) (fun hHeld => ?_)
       clear hK K
       refine norm_ (a' := ?_) ?_ ?_
       rotate_left
       ·show Act.put _ (some 67) _ = _
        simp only [Act.put, List.setIfInBounds_toArray, List.set_cons_zero, List.set_cons_succ, i64_w]
        rfl
       refine pure_ (i := 6) (N := some 68) (v := ?_) (a' := ?_) #[true, true, true, true, true, true, true, false] rfl rfl (any_of HT_.out (by kernel_rfl)) (fun _ _ _ h => h) (Or.inl ⟨by rfl, ?_⟩) ?_ ?_
       rotate_left
       ·intro w'
        go_simp
        with_reducible rfl
       rotate_left
       ·simp only [Act.put, List.setIfInBounds_toArray, List.set_cons_zero, List.set_cons_succ, i64_w]
        rfl
       refine pure_ (i := 7) (N := some 10) (v := ?_) (a' := ?_) #[true, true, true, true, true, true, true, true] rfl rfl (any_of HT_.out (by kernel_rfl)) (fun _ _ _ h => h) (Or.inl ⟨by rfl, ?_⟩) ?_ ?_
       rotate_left
       ·intro w'
        go_simp
        with_reducible rfl
       rotate_left
       ·simp only [Act.put, List.setIfInBounds_toArray, List.set_cons_zero, List.set_cons_succ, i64_w]
        rfl
       refine done_ (done_of HT_.out (by kernel_rfl)) ?_
       have hcz259_0 : w258.cell? ⟨ad, 0, none⟩ = some (.int .u32 t355) := (blk_cell ae.out 0).trans rfl
       have hcz259_1 : w258.cell? ⟨ad, 1, none⟩ = some (.int .i64 t356) := (blk_cell ae.out 1).trans rfl
       have hfz259_0 := blk_frozen ae.out 0
       have hfz259_1 := blk_frozen ae.out 1
       have hcz260_0 : w258.cell? ⟨af, 0, none⟩ = some (.int .u32 am) := (blk_cell aa.out 0).trans rfl
       have hcz260_1 : w258.cell? ⟨af, 1, none⟩ = some (.int .i64 al) := (blk_cell aa.out 1).trans rfl
       have hfz260_0 := blk_frozen aa.out 0
       have hfz260_1 := blk_frozen aa.out 1
       try go_wp2
       go_ret
       exact ⟨by first | rfl | (simp [errW_none, errW_some] <;> rfl) | (simp [*, errW_none, errW_some] <;> rfl), by repeat (first | (with_reducible first | exact HB.out | apply below_alloc | apply pw_below_drewN | apply below_drew1 | refine below_set ?_ ag.out | refine below_set ?_ ah.out | refine below_set ?_ ai.out | refine below_set ?_ au.out) | exact HB.out)⟩
     ·rw [if_neg c117] at H
      have c117b0 : (t357 == 0) = false := beq_eq_false_iff_ne.mpr c117
      have c117b1 : (t357 != 0) = true := bne_iff_ne.mpr c117
      obtain rfl := Option.some.inj H
      have hnb261 := av.out
      have hnc261 := aq.out
      have hnb262 := ax.out
      have hnc262 := ay.out
      have hcz263_0 : wc.cell? ⟨aj, 0, none⟩ = some (.int .u32 t343) := (blk_cell ab.out 0).trans rfl
      have hcz263_1 : wc.cell? ⟨aj, 1, none⟩ = some (.int .i64 t344) := (blk_cell ab.out 1).trans rfl
      have hfz263_0 := blk_frozen ab.out 0
      have hfz263_1 := blk_frozen ab.out 1
      have hnb264 := aw.out
      have hnc264 := ar.out
      have hcz265_0 : wc.cell? ⟨ak, 0, none⟩ = some (.int .u32 t345) := (blk_cell ac.out 0).trans rfl
      have hcz265_1 : wc.cell? ⟨ak, 1, none⟩ = some (.int .i64 t346) := (blk_cell ac.out 1).trans rfl
      have hfz265_0 := blk_frozen ac.out 0
      have hfz265_1 := blk_frozen ac.out 1
      try go_wp2_with (first | ((with_reducible refine gate_callee (f := 25) rfl ?_); refine goesL_ (some 59) rfl rfl Try.func25 (by kernel_rfl) rfl #[.agg #[.int .u32 t343, .int .i64 t344], .agg #[.int .u32 t345, .int .i64 t346]] rfl (by (try simp only [List.map_toArray, List.map_cons, List.map_nil]); first | done | rfl) ?_; (with_reducible refine (addr_Above.calls bb t343 t344 t345 t346 t355 t356 t357 _ a8.out).mono ?_); rintro e w266 ⟨rfl, hb⟩; refine ⟨_, rfl, ?_⟩; replace aa := Aside0.mk (ka6e7.q aa.out hb rfl); replace ab := Aside0.mk (ka6e7.q ab.out hb rfl); replace ac := Aside0.mk (ka6e7.q ac.out hb rfl); replace HB := Aside0.mk (below_step (by repeat (first | (with_reducible first | exact HB.out | apply below_alloc | apply pw_below_drewN | apply below_drew1 | refine below_set ?_ ag.out | refine below_set ?_ ah.out | refine below_set ?_ ai.out) | exact HB.out)) hb); (try clear hb); (try clear a5); (try clear hk); (try clear hi)) | ((with_reducible refine gate_dst (N := 8) rfl ?_); refine box_event ?hg (N := 8) ?hd (cs := #[.int .u32 0, .int .i64 0]) (t := 30) ?hr ?_; (case hd => rfl); (case hg => rfl); (case hr => first | (go_simp; done) | (go_simp; rfl)); intro ad hg w267 hbox hb; have n0_ := Aside0.mk (ka6e7.q aa.out hb rfl); have n1_ := Aside0.mk (ka6e7.q ab.out hb rfl); have n2_ := Aside0.mk (ka6e7.q ac.out hb rfl); have n3_ := Aside0.mk (below_step (by repeat (first | (with_reducible first | exact HB.out | apply below_alloc | apply pw_below_drewN | apply below_drew1 | refine below_set ?_ ag.out | refine below_set ?_ ah.out | refine below_set ?_ ai.out) | exact HB.out)) hb); have n4_ := Aside0.mk (hbox); have n5_ := Aside0.mk ((by rw [hg]; exact (below_size (by repeat (first | (with_reducible first | exact HB.out | apply below_alloc | apply pw_below_drewN | apply below_drew1 | refine below_set ?_ ag.out | refine below_set ?_ ah.out | refine below_set ?_ ai.out) | exact HB.out))) : w.heap.size ≤ ad)); have n6_ := Aside0.mk ((by rw [hg]; exact (below_size (by repeat (first | (with_reducible first | exact HB.out | apply below_alloc | apply pw_below_drewN | apply below_drew1 | refine below_set ?_ ag.out | refine below_set ?_ ah.out | refine below_set ?_ ai.out) | exact HB.out))) : w.heap.size ≤ ad)); have n7_ := Aside0.mk ((by rw [hg]; exact Nat.ne_of_lt (blk_lt (g := af) (o := .cells #[.int .u32 am, .int .i64 al] 30 (0, 0)) (by (with_reducible repeat (first | refine blk_drewN ?_ _ | refine blk_drew ?_ | refine blk_alloc ?_ _)); exact aa.out)) : af ≠ ad)); have n8_ := Aside0.mk ((by rw [hg]; exact Nat.ne_of_gt (blk_lt (g := af) (o := .cells #[.int .u32 am, .int .i64 al] 30 (0, 0)) (by (with_reducible repeat (first | refine blk_drewN ?_ _ | refine blk_drew ?_ | refine blk_alloc ?_ _)); exact aa.out)) : ad ≠ af)); have n9_ := Aside0.mk ((by rw [hg]; exact Nat.ne_of_lt (blk_lt (g := aj) (o := .cells #[.int .u32 t343, .int .i64 t344] 30 (0, 0)) (by (with_reducible repeat (first | refine blk_drewN ?_ _ | refine blk_drew ?_ | refine blk_alloc ?_ _)); exact ab.out)) : aj ≠ ad)); have n10_ := Aside0.mk ((by rw [hg]; exact Nat.ne_of_gt (blk_lt (g := aj) (o := .cells #[.int .u32 t343, .int .i64 t344] 30 (0, 0)) (by (with_reducible repeat (first | refine blk_drewN ?_ _ | refine blk_drew ?_ | refine blk_alloc ?_ _)); exact ab.out)) : ad ≠ aj)); have n11_ := Aside0.mk ((by rw [hg]; exact Nat.ne_of_lt (blk_lt (g := ak) (o := .cells #[.int .u32 t345, .int .i64 t346] 30 (0, 0)) (by (with_reducible repeat (first | refine blk_drewN ?_ _ | refine blk_drew ?_ | refine blk_alloc ?_ _)); exact ac.out)) : ak ≠ ad)); have n12_ := Aside0.mk ((by rw [hg]; exact Nat.ne_of_gt (blk_lt (g := ak) (o := .cells #[.int .u32 t345, .int .i64 t346] 30 (0, 0)) (by (with_reducible repeat (first | refine blk_drewN ?_ _ | refine blk_drew ?_ | refine blk_alloc ?_ _)); exact ac.out)) : ad ≠ ak)); clear aa; clear ab; clear ac; clear HB; have aa := n0_; have ab := n1_; have ac := n2_; have HB := n3_; have ae := n4_; have GW358 := n5_; have au := n6_; have an := n7_; have az := n8_; have ao := n9_; have a3 := n10_; have ap := n11_; have a4 := n12_; clear n0_ n1_ n2_ n3_ n4_ n5_ n6_ n7_ n8_ n9_ n10_ n11_ n12_; clear hb hbox hg; have hnb268 := az.out; have hnc268 := an.out; have hnb269 := a3.out; have hnc269 := ao.out; have hnb270 := a4.out; have hnc270 := ap.out; have hcz271_0 : w267.cell? ⟨ad, 0, none⟩ = some (.int .u32 0) := (blk_cell ae.out 0).trans rfl; have hcz271_1 : w267.cell? ⟨ad, 1, none⟩ = some (.int .i64 0) := (blk_cell ae.out 1).trans rfl; have hfz271_0 := blk_frozen ae.out 0; have hfz271_1 := blk_frozen ae.out 1))
      have n0_ : Aside0 (((w267.setCell ⟨ad, 0, none⟩ (.int .u32 t355)).setCell ⟨ad, 1, none⟩ (.int .i64 t356)).heap[af]? = some (.cells #[.int .u32 am, .int .i64 al] 30 (0, 0))) := ⟨by (with_reducible repeat (first | refine blk_drewN ?_ _ | refine blk_drew ?_ | refine blk_alloc ?_ _)); refine blk_far ?_ an.out _; (with_reducible repeat (first | refine blk_drewN ?_ _ | refine blk_drew ?_ | refine blk_alloc ?_ _)); refine blk_far ?_ an.out _; (with_reducible repeat (first | refine blk_drewN ?_ _ | refine blk_drew ?_ | refine blk_alloc ?_ _)); exact aa.out⟩
      have n1_ : Aside0 (((w267.setCell ⟨ad, 0, none⟩ (.int .u32 t355)).setCell ⟨ad, 1, none⟩ (.int .i64 t356)).heap[aj]? = some (.cells #[.int .u32 t343, .int .i64 t344] 30 (0, 0))) := ⟨by (with_reducible repeat (first | refine blk_drewN ?_ _ | refine blk_drew ?_ | refine blk_alloc ?_ _)); refine blk_far ?_ ao.out _; (with_reducible repeat (first | refine blk_drewN ?_ _ | refine blk_drew ?_ | refine blk_alloc ?_ _)); refine blk_far ?_ ao.out _; (with_reducible repeat (first | refine blk_drewN ?_ _ | refine blk_drew ?_ | refine blk_alloc ?_ _)); exact ab.out⟩
      have n2_ : Aside0 (((w267.setCell ⟨ad, 0, none⟩ (.int .u32 t355)).setCell ⟨ad, 1, none⟩ (.int .i64 t356)).heap[ak]? = some (.cells #[.int .u32 t345, .int .i64 t346] 30 (0, 0))) := ⟨by (with_reducible repeat (first | refine blk_drewN ?_ _ | refine blk_drew ?_ | refine blk_alloc ?_ _)); refine blk_far ?_ ap.out _; (with_reducible repeat (first | refine blk_drewN ?_ _ | refine blk_drew ?_ | refine blk_alloc ?_ _)); refine blk_far ?_ ap.out _; (with_reducible repeat (first | refine blk_drewN ?_ _ | refine blk_drew ?_ | refine blk_alloc ?_ _)); exact ac.out⟩
      have n3_ : Aside0 (((w267.setCell ⟨ad, 0, none⟩ (.int .u32 t355)).setCell ⟨ad, 1, none⟩ (.int .i64 t356)).heap[ad]? = some (.cells #[.int .u32 t355, .int .i64 t356] 30 (0, 0))) := ⟨by (with_reducible repeat (first | refine blk_drewN ?_ _ | refine blk_drew ?_ | refine blk_alloc ?_ _)); refine blk_put (cs := #[.int .u32 t355, .int .i64 0]) ?_ 1 _ rfl; (with_reducible repeat (first | refine blk_drewN ?_ _ | refine blk_drew ?_ | refine blk_alloc ?_ _)); refine blk_put (cs := #[.int .u32 0, .int .i64 0]) ?_ 0 _ rfl; (with_reducible repeat (first | refine blk_drewN ?_ _ | refine blk_drew ?_ | refine blk_alloc ?_ _)); exact ae.out⟩
      have n4_ : Aside0 (Below w.heap.size w ((w267.setCell ⟨ad, 0, none⟩ (.int .u32 t355)).setCell ⟨ad, 1, none⟩ (.int .i64 t356))) := ⟨by repeat (first | (with_reducible first | exact HB.out | apply below_alloc | apply pw_below_drewN | apply below_drew1 | refine below_set ?_ ag.out | refine below_set ?_ ah.out | refine below_set ?_ ai.out | refine below_set ?_ au.out) | exact HB.out)⟩
      (try clear aa)
      (try clear ab)
      (try clear ac)
      (try clear ae)
      (try clear HB)
      generalize ((w267.setCell ⟨ad, 0, none⟩ (.int .u32 t355)).setCell ⟨ad, 1, none⟩ (.int .i64 t356)) = w272 at n0_ n1_ n2_ n3_ n4_ ⊢
      have aa := n0_
      have ab := n1_
      have ac := n2_
      have ae := n3_
      have HB := n4_
      clear n0_ n1_ n2_ n3_ n4_
      replace aa := Aside0.mk (blk_drew aa.out)
      replace ab := Aside0.mk (blk_drew ab.out)
      replace ac := Aside0.mk (blk_drew ac.out)
      replace ae := Aside0.mk (blk_drew ae.out)
      replace HB := Aside0.mk (below_drew1 HB.out)
      refine start_ (n := 8) (S := ka6e7.S0 aj ak (.int .u32 t343) (.int .i64 t344) (.int .u32 t345) (.int .i64 t346)) (ds := []) #[false, false, false, false, false, false, false, false] (by kernel_rfl) rfl rfl (ka6e7.b2 ab.out (ka6e7.b2e ac.out)) (fun hHeld => ?_); refine with_tabW whirligiglaw01_AddrHalves.tab5 whirligiglaw01_AddrHalves.bits5 (fun HT_ HW_ => ?_)
      generalize w272.drew = w273 at aa ab ac ae HB hHeld ⊢
      refine pure_ (i := 1) (N := some 63) (v := ?_) (a' := ?_) #[false, true, false, false, false, false, false, false] rfl rfl (any_of HT_.out (by kernel_rfl)) (fun _ _ _ h => h) (Or.inl ⟨by rfl, ?_⟩) ?_ ?_
      rotate_left
      ·intro w'
       go_simp
       with_reducible rfl
      rotate_left
      ·simp only [Act.put, List.setIfInBounds_toArray, List.set_cons_zero, List.set_cons_succ, i64_w]
       rfl
      refine pure_ (i := 4) (N := some 66) (v := ?_) (a' := ?_) #[false, true, false, false, true, false, false, false] rfl rfl (any_of HT_.out (by kernel_rfl)) (fun _ _ _ h => h) (Or.inl ⟨by rfl, ?_⟩) ?_ ?_
      rotate_left
      ·intro w'
       go_simp
       with_reducible rfl
      rotate_left
      ·simp only [Act.put, List.setIfInBounds_toArray, List.set_cons_zero, List.set_cons_succ, i64_w]
       rfl
      refine take_ (i := 0) (N := some 62) (v := ?_) (a' := ?_) #[true, true, false, false, true, false, false, false] rfl rfl (take_ofW HT_.out HW_.out (by kernel_rfl)) (fun _ _ _ h => h) (Or.inl ⟨by rfl, ?_⟩) hHeld ?_ ?_
      rotate_left
      ·rintro w' ⟨s0, s1, s2, s3⟩
       go_simp
       with_reducible rfl
      rotate_left
      ·simp only [Act.put, List.setIfInBounds_toArray, List.set_cons_zero, List.set_cons_succ, i64_w]
       rfl
      refine take_ (i := 3) (N := some 65) (v := ?_) (a' := ?_) #[true, true, false, true, true, false, false, false] rfl rfl (take_ofW HT_.out HW_.out (by kernel_rfl)) (fun _ _ _ h => h) (Or.inl ⟨by rfl, ?_⟩) hHeld ?_ ?_
      rotate_left
      ·rintro w' ⟨s0, s1, s2, s3⟩
       go_simp
       with_reducible rfl
      rotate_left
      ·simp only [Act.put, List.setIfInBounds_toArray, List.set_cons_zero, List.set_cons_succ, i64_w]
       rfl
      refine one_ (i := 2) (N := some 64) #[true, true, true, true, true, false, false, false] rfl rfl (one_of HT_.out (by kernel_rfl)) (by decide) (fun K hK => ?_)
      refine goes_ Try.func17 (by kernel_rfl) rfl #[.agg #[.int .u32 t343, .int .i64 t344], .int .u32 a1] (by rfl) rfl rfl (by (try simp only [List.map_toArray, List.map_cons, List.map_nil]); first | done | rfl) ?_
      with_reducible refine (addr_Has.calls t343 t344 a1 t359 _ a9.out).mono ?_
      rintro e w274 ⟨rfl, hb⟩
      refine ⟨_, rfl, ?_⟩
      replace aa := Aside0.mk (ka6e7.q aa.out hb rfl)
      replace ab := Aside0.mk (ka6e7.q ab.out hb rfl)
      replace ac := Aside0.mk (ka6e7.q ac.out hb rfl)
      replace ae := Aside0.mk (ka6e7.q ae.out hb rfl)
      replace HB := Aside0.mk (below_step (by repeat (first | (with_reducible first | exact HB.out | apply below_alloc | apply pw_below_drewN | apply below_drew1 | refine below_set ?_ ag.out | refine below_set ?_ ah.out | refine below_set ?_ ai.out | refine below_set ?_ au.out) | exact HB.out)) hb)
      (try clear hb)
      (try clear a5)
      (try clear hk)
      (try clear hi)
      refine hK.out _ _ (ka6e7.b2 ab.out (ka6e7.b2e ac.out)) (fun hHeld => ?_)
      clear hK K
      refine norm_ (a' := ?_) ?_ ?_
      rotate_left
      ·show Act.put _ (some 64) _ = _
       simp only [Act.put, List.setIfInBounds_toArray, List.set_cons_zero, List.set_cons_succ, i64_w]
       rfl
      refine one_ (i := 5) (N := some 67) #[true, true, true, true, true, true, false, false] rfl rfl (one_of HT_.out (by kernel_rfl)) (by decide) (fun K hK => ?_)
      refine goes_ Try.func17 (by kernel_rfl) rfl #[.agg #[.int .u32 t345, .int .i64 t346], .int .u32 a1] (by rfl) rfl rfl (by (try simp only [List.map_toArray, List.map_cons, List.map_nil]); first | done | rfl) ?_
      with_reducible refine (addr_Has.calls t345 t346 a1 t360 _ ba.out).mono ?_
      rintro e w275 ⟨rfl, hb⟩
      refine ⟨_, rfl, ?_⟩
      replace aa := Aside0.mk (ka6e7.q aa.out hb rfl)
      replace ab := Aside0.mk (ka6e7.q ab.out hb rfl)
      replace ac := Aside0.mk (ka6e7.q ac.out hb rfl)
      replace ae := Aside0.mk (ka6e7.q ae.out hb rfl)
      replace HB := Aside0.mk (below_step (by repeat (first | (with_reducible first | exact HB.out | apply below_alloc | apply pw_below_drewN | apply below_drew1 | refine below_set ?_ ag.out | refine below_set ?_ ah.out | refine below_set ?_ ai.out | refine below_set ?_ au.out) | exact HB.out)) hb)
      (try clear hb)
      (try clear a5)
      (try clear hk)
      (try clear hi)
      refine hK.out _ _ (ka6e7.b2 ab.out (ka6e7.b2e ac.out)) (fun hHeld => ?_)
      clear hK K
      refine norm_ (a' := ?_) ?_ ?_
      rotate_left
      ·show Act.put _ (some 67) _ = _
       simp only [Act.put, List.setIfInBounds_toArray, List.set_cons_zero, List.set_cons_succ, i64_w]
       rfl
      refine pure_ (i := 6) (N := some 68) (v := ?_) (a' := ?_) #[true, true, true, true, true, true, true, false] rfl rfl (any_of HT_.out (by kernel_rfl)) (fun _ _ _ h => h) (Or.inl ⟨by rfl, ?_⟩) ?_ ?_
      rotate_left
      ·intro w'
       go_simp
       with_reducible rfl
      rotate_left
      ·simp only [Act.put, List.setIfInBounds_toArray, List.set_cons_zero, List.set_cons_succ, i64_w]
       rfl
      refine pure_ (i := 7) (N := some 10) (v := ?_) (a' := ?_) #[true, true, true, true, true, true, true, true] rfl rfl (any_of HT_.out (by kernel_rfl)) (fun _ _ _ h => h) (Or.inl ⟨by rfl, ?_⟩) ?_ ?_
      rotate_left
      ·intro w'
       go_simp
       with_reducible rfl
      rotate_left
      ·simp only [Act.put, List.setIfInBounds_toArray, List.set_cons_zero, List.set_cons_succ, i64_w]
       rfl
      refine done_ (done_of HT_.out (by kernel_rfl)) ?_
      try go_wp2
      go_ret
      exact ⟨by first | rfl | (simp [errW_none, errW_some] <;> rfl) | (simp [*, errW_none, errW_some] <;> rfl), by repeat (first | (with_reducible first | exact HB.out | apply below_alloc | apply pw_below_drewN | apply below_drew1 | refine below_set ?_ ag.out | refine below_set ?_ ah.out | refine below_set ?_ ai.out | refine below_set ?_ au.out) | exact HB.out)⟩
    ·rw [if_neg c116] at H
     have c116b0 : (t347 == 0) = false := beq_eq_false_iff_ne.mpr c116
     have c116b1 : (t347 != 0) = true := bne_iff_ne.mpr c116
     obtain rfl := Option.some.inj H
     have hnb276 := av.out
     have hnc276 := aq.out
     have hnb277 := ax.out
     have hnc277 := ay.out
     have hcz278_0 : wc.cell? ⟨aj, 0, none⟩ = some (.int .u32 t343) := (blk_cell ab.out 0).trans rfl
     have hcz278_1 : wc.cell? ⟨aj, 1, none⟩ = some (.int .i64 t344) := (blk_cell ab.out 1).trans rfl
     have hfz278_0 := blk_frozen ab.out 0
     have hfz278_1 := blk_frozen ab.out 1
     have hnb279 := aw.out
     have hnc279 := ar.out
     have hcz280_0 : wc.cell? ⟨ak, 0, none⟩ = some (.int .u32 t345) := (blk_cell ac.out 0).trans rfl
     have hcz280_1 : wc.cell? ⟨ak, 1, none⟩ = some (.int .i64 t346) := (blk_cell ac.out 1).trans rfl
     have hfz280_0 := blk_frozen ac.out 0
     have hfz280_1 := blk_frozen ac.out 1
     try go_wp2_with (first | ((with_reducible refine gate_callee (f := 25) rfl ?_); refine goesL_ (some 59) rfl rfl Try.func25 (by kernel_rfl) rfl #[.agg #[.int .u32 t343, .int .i64 t344], .agg #[.int .u32 t345, .int .i64 t346]] rfl (by (try simp only [List.map_toArray, List.map_cons, List.map_nil]); first | done | rfl) ?_; (with_reducible refine (addr_Above.calls bb t343 t344 t345 t346 t355 t356 t357 _ a8.out).mono ?_); rintro e w281 ⟨rfl, hb⟩; refine ⟨_, rfl, ?_⟩; replace aa := Aside0.mk (ka6e7.q aa.out hb rfl); replace ab := Aside0.mk (ka6e7.q ab.out hb rfl); replace ac := Aside0.mk (ka6e7.q ac.out hb rfl); replace HB := Aside0.mk (below_step (by repeat (first | (with_reducible first | exact HB.out | apply below_alloc | apply pw_below_drewN | apply below_drew1 | refine below_set ?_ ag.out | refine below_set ?_ ah.out | refine below_set ?_ ai.out) | exact HB.out)) hb); (try clear hb); (try clear a5); (try clear hk); (try clear hi)) | ((with_reducible refine gate_dst (N := 8) rfl ?_); refine box_event ?hg (N := 8) ?hd (cs := #[.int .u32 0, .int .i64 0]) (t := 30) ?hr ?_; (case hd => rfl); (case hg => rfl); (case hr => first | (go_simp; done) | (go_simp; rfl)); intro ad hg w282 hbox hb; have n0_ := Aside0.mk (ka6e7.q aa.out hb rfl); have n1_ := Aside0.mk (ka6e7.q ab.out hb rfl); have n2_ := Aside0.mk (ka6e7.q ac.out hb rfl); have n3_ := Aside0.mk (below_step (by repeat (first | (with_reducible first | exact HB.out | apply below_alloc | apply pw_below_drewN | apply below_drew1 | refine below_set ?_ ag.out | refine below_set ?_ ah.out | refine below_set ?_ ai.out) | exact HB.out)) hb); have n4_ := Aside0.mk (hbox); have n5_ := Aside0.mk ((by rw [hg]; exact (below_size (by repeat (first | (with_reducible first | exact HB.out | apply below_alloc | apply pw_below_drewN | apply below_drew1 | refine below_set ?_ ag.out | refine below_set ?_ ah.out | refine below_set ?_ ai.out) | exact HB.out))) : w.heap.size ≤ ad)); have n6_ := Aside0.mk ((by rw [hg]; exact (below_size (by repeat (first | (with_reducible first | exact HB.out | apply below_alloc | apply pw_below_drewN | apply below_drew1 | refine below_set ?_ ag.out | refine below_set ?_ ah.out | refine below_set ?_ ai.out) | exact HB.out))) : w.heap.size ≤ ad)); have n7_ := Aside0.mk ((by rw [hg]; exact Nat.ne_of_lt (blk_lt (g := af) (o := .cells #[.int .u32 am, .int .i64 al] 30 (0, 0)) (by (with_reducible repeat (first | refine blk_drewN ?_ _ | refine blk_drew ?_ | refine blk_alloc ?_ _)); exact aa.out)) : af ≠ ad)); have n8_ := Aside0.mk ((by rw [hg]; exact Nat.ne_of_gt (blk_lt (g := af) (o := .cells #[.int .u32 am, .int .i64 al] 30 (0, 0)) (by (with_reducible repeat (first | refine blk_drewN ?_ _ | refine blk_drew ?_ | refine blk_alloc ?_ _)); exact aa.out)) : ad ≠ af)); have n9_ := Aside0.mk ((by rw [hg]; exact Nat.ne_of_lt (blk_lt (g := aj) (o := .cells #[.int .u32 t343, .int .i64 t344] 30 (0, 0)) (by (with_reducible repeat (first | refine blk_drewN ?_ _ | refine blk_drew ?_ | refine blk_alloc ?_ _)); exact ab.out)) : aj ≠ ad)); have n10_ := Aside0.mk ((by rw [hg]; exact Nat.ne_of_gt (blk_lt (g := aj) (o := .cells #[.int .u32 t343, .int .i64 t344] 30 (0, 0)) (by (with_reducible repeat (first | refine blk_drewN ?_ _ | refine blk_drew ?_ | refine blk_alloc ?_ _)); exact ab.out)) : ad ≠ aj)); have n11_ := Aside0.mk ((by rw [hg]; exact Nat.ne_of_lt (blk_lt (g := ak) (o := .cells #[.int .u32 t345, .int .i64 t346] 30 (0, 0)) (by (with_reducible repeat (first | refine blk_drewN ?_ _ | refine blk_drew ?_ | refine blk_alloc ?_ _)); exact ac.out)) : ak ≠ ad)); have n12_ := Aside0.mk ((by rw [hg]; exact Nat.ne_of_gt (blk_lt (g := ak) (o := .cells #[.int .u32 t345, .int .i64 t346] 30 (0, 0)) (by (with_reducible repeat (first | refine blk_drewN ?_ _ | refine blk_drew ?_ | refine blk_alloc ?_ _)); exact ac.out)) : ad ≠ ak)); clear aa; clear ab; clear ac; clear HB; have aa := n0_; have ab := n1_; have ac := n2_; have HB := n3_; have ae := n4_; have GW358 := n5_; have au := n6_; have an := n7_; have az := n8_; have ao := n9_; have a3 := n10_; have ap := n11_; have a4 := n12_; clear n0_ n1_ n2_ n3_ n4_ n5_ n6_ n7_ n8_ n9_ n10_ n11_ n12_; clear hb hbox hg; have hnb283 := az.out; have hnc283 := an.out; have hnb284 := a3.out; have hnc284 := ao.out; have hnb285 := a4.out; have hnc285 := ap.out; have hcz286_0 : w282.cell? ⟨ad, 0, none⟩ = some (.int .u32 0) := (blk_cell ae.out 0).trans rfl; have hcz286_1 : w282.cell? ⟨ad, 1, none⟩ = some (.int .i64 0) := (blk_cell ae.out 1).trans rfl; have hfz286_0 := blk_frozen ae.out 0; have hfz286_1 := blk_frozen ae.out 1))
     have n0_ : Aside0 (((w282.setCell ⟨ad, 0, none⟩ (.int .u32 t355)).setCell ⟨ad, 1, none⟩ (.int .i64 t356)).heap[af]? = some (.cells #[.int .u32 am, .int .i64 al] 30 (0, 0))) := ⟨by (with_reducible repeat (first | refine blk_drewN ?_ _ | refine blk_drew ?_ | refine blk_alloc ?_ _)); refine blk_far ?_ an.out _; (with_reducible repeat (first | refine blk_drewN ?_ _ | refine blk_drew ?_ | refine blk_alloc ?_ _)); refine blk_far ?_ an.out _; (with_reducible repeat (first | refine blk_drewN ?_ _ | refine blk_drew ?_ | refine blk_alloc ?_ _)); exact aa.out⟩
     have n1_ : Aside0 (((w282.setCell ⟨ad, 0, none⟩ (.int .u32 t355)).setCell ⟨ad, 1, none⟩ (.int .i64 t356)).heap[aj]? = some (.cells #[.int .u32 t343, .int .i64 t344] 30 (0, 0))) := ⟨by (with_reducible repeat (first | refine blk_drewN ?_ _ | refine blk_drew ?_ | refine blk_alloc ?_ _)); refine blk_far ?_ ao.out _; (with_reducible repeat (first | refine blk_drewN ?_ _ | refine blk_drew ?_ | refine blk_alloc ?_ _)); refine blk_far ?_ ao.out _; (with_reducible repeat (first | refine blk_drewN ?_ _ | refine blk_drew ?_ | refine blk_alloc ?_ _)); exact ab.out⟩
     have n2_ : Aside0 (((w282.setCell ⟨ad, 0, none⟩ (.int .u32 t355)).setCell ⟨ad, 1, none⟩ (.int .i64 t356)).heap[ak]? = some (.cells #[.int .u32 t345, .int .i64 t346] 30 (0, 0))) := ⟨by (with_reducible repeat (first | refine blk_drewN ?_ _ | refine blk_drew ?_ | refine blk_alloc ?_ _)); refine blk_far ?_ ap.out _; (with_reducible repeat (first | refine blk_drewN ?_ _ | refine blk_drew ?_ | refine blk_alloc ?_ _)); refine blk_far ?_ ap.out _; (with_reducible repeat (first | refine blk_drewN ?_ _ | refine blk_drew ?_ | refine blk_alloc ?_ _)); exact ac.out⟩
     have n3_ : Aside0 (((w282.setCell ⟨ad, 0, none⟩ (.int .u32 t355)).setCell ⟨ad, 1, none⟩ (.int .i64 t356)).heap[ad]? = some (.cells #[.int .u32 t355, .int .i64 t356] 30 (0, 0))) := ⟨by (with_reducible repeat (first | refine blk_drewN ?_ _ | refine blk_drew ?_ | refine blk_alloc ?_ _)); refine blk_put (cs := #[.int .u32 t355, .int .i64 0]) ?_ 1 _ rfl; (with_reducible repeat (first | refine blk_drewN ?_ _ | refine blk_drew ?_ | refine blk_alloc ?_ _)); refine blk_put (cs := #[.int .u32 0, .int .i64 0]) ?_ 0 _ rfl; (with_reducible repeat (first | refine blk_drewN ?_ _ | refine blk_drew ?_ | refine blk_alloc ?_ _)); exact ae.out⟩
     have n4_ : Aside0 (Below w.heap.size w ((w282.setCell ⟨ad, 0, none⟩ (.int .u32 t355)).setCell ⟨ad, 1, none⟩ (.int .i64 t356))) := ⟨by repeat (first | (with_reducible first | exact HB.out | apply below_alloc | apply pw_below_drewN | apply below_drew1 | refine below_set ?_ ag.out | refine below_set ?_ ah.out | refine below_set ?_ ai.out | refine below_set ?_ au.out) | exact HB.out)⟩
     (try clear aa)
     (try clear ab)
     (try clear ac)
     (try clear ae)
     (try clear HB)
     generalize ((w282.setCell ⟨ad, 0, none⟩ (.int .u32 t355)).setCell ⟨ad, 1, none⟩ (.int .i64 t356)) = w287 at n0_ n1_ n2_ n3_ n4_ ⊢
     have aa := n0_
     have ab := n1_
     have ac := n2_
     have ae := n3_
     have HB := n4_
     clear n0_ n1_ n2_ n3_ n4_
     replace aa := Aside0.mk (blk_drew aa.out)
     replace ab := Aside0.mk (blk_drew ab.out)
     replace ac := Aside0.mk (blk_drew ac.out)
     replace ae := Aside0.mk (blk_drew ae.out)
     replace HB := Aside0.mk (below_drew1 HB.out)
     refine start_ (n := 8) (S := ka6e7.S0 aj ak (.int .u32 t343) (.int .i64 t344) (.int .u32 t345) (.int .i64 t346)) (ds := []) #[false, false, false, false, false, false, false, false] (by kernel_rfl) rfl rfl (ka6e7.b2 ab.out (ka6e7.b2e ac.out)) (fun hHeld => ?_); refine with_tabW whirligiglaw01_AddrHalves.tab5 whirligiglaw01_AddrHalves.bits5 (fun HT_ HW_ => ?_)
     generalize w287.drew = w288 at aa ab ac ae HB hHeld ⊢
     refine pure_ (i := 1) (N := some 63) (v := ?_) (a' := ?_) #[false, true, false, false, false, false, false, false] rfl rfl (any_of HT_.out (by kernel_rfl)) (fun _ _ _ h => h) (Or.inl ⟨by rfl, ?_⟩) ?_ ?_
     rotate_left
     ·intro w'
      go_simp
      with_reducible rfl
     rotate_left
     ·simp only [Act.put, List.setIfInBounds_toArray, List.set_cons_zero, List.set_cons_succ, i64_w]
      rfl
     refine pure_ (i := 4) (N := some 66) (v := ?_) (a' := ?_) #[false, true, false, false, true, false, false, false] rfl rfl (any_of HT_.out (by kernel_rfl)) (fun _ _ _ h => h) (Or.inl ⟨by rfl, ?_⟩) ?_ ?_
     rotate_left
     ·intro w'
      go_simp
      with_reducible rfl
     rotate_left
     ·simp only [Act.put, List.setIfInBounds_toArray, List.set_cons_zero, List.set_cons_succ, i64_w]
      rfl
     refine take_ (i := 0) (N := some 62) (v := ?_) (a' := ?_) #[true, true, false, false, true, false, false, false] rfl rfl (take_ofW HT_.out HW_.out (by kernel_rfl)) (fun _ _ _ h => h) (Or.inl ⟨by rfl, ?_⟩) hHeld ?_ ?_
     rotate_left
     ·rintro w' ⟨s0, s1, s2, s3⟩
      go_simp
      with_reducible rfl
     rotate_left
     ·simp only [Act.put, List.setIfInBounds_toArray, List.set_cons_zero, List.set_cons_succ, i64_w]
      rfl
     refine take_ (i := 3) (N := some 65) (v := ?_) (a' := ?_) #[true, true, false, true, true, false, false, false] rfl rfl (take_ofW HT_.out HW_.out (by kernel_rfl)) (fun _ _ _ h => h) (Or.inl ⟨by rfl, ?_⟩) hHeld ?_ ?_
     rotate_left
     ·rintro w' ⟨s0, s1, s2, s3⟩
      go_simp
      with_reducible rfl
     rotate_left
     ·simp only [Act.put, List.setIfInBounds_toArray, List.set_cons_zero, List.set_cons_succ, i64_w]
      rfl
     refine one_ (i := 2) (N := some 64) #[true, true, true, true, true, false, false, false] rfl rfl (one_of HT_.out (by kernel_rfl)) (by decide) (fun K hK => ?_)
     refine goes_ Try.func17 (by kernel_rfl) rfl #[.agg #[.int .u32 t343, .int .i64 t344], .int .u32 a1] (by rfl) rfl rfl (by (try simp only [List.map_toArray, List.map_cons, List.map_nil]); first | done | rfl) ?_
     with_reducible refine (addr_Has.calls t343 t344 a1 t359 _ a9.out).mono ?_
     rintro e w289 ⟨rfl, hb⟩
     refine ⟨_, rfl, ?_⟩
     replace aa := Aside0.mk (ka6e7.q aa.out hb rfl)
     replace ab := Aside0.mk (ka6e7.q ab.out hb rfl)
     replace ac := Aside0.mk (ka6e7.q ac.out hb rfl)
     replace ae := Aside0.mk (ka6e7.q ae.out hb rfl)
     replace HB := Aside0.mk (below_step (by repeat (first | (with_reducible first | exact HB.out | apply below_alloc | apply pw_below_drewN | apply below_drew1 | refine below_set ?_ ag.out | refine below_set ?_ ah.out | refine below_set ?_ ai.out | refine below_set ?_ au.out) | exact HB.out)) hb)
     (try clear hb)
     (try clear a5)
     (try clear hk)
     (try clear hi)
     refine hK.out _ _ (ka6e7.b2 ab.out (ka6e7.b2e ac.out)) (fun hHeld => ?_)
     clear hK K
     refine norm_ (a' := ?_) ?_ ?_
     rotate_left
     ·show Act.put _ (some 64) _ = _
      simp only [Act.put, List.setIfInBounds_toArray, List.set_cons_zero, List.set_cons_succ, i64_w]
      rfl
     refine one_ (i := 5) (N := some 67) #[true, true, true, true, true, true, false, false] rfl rfl (one_of HT_.out (by kernel_rfl)) (by decide) (fun K hK => ?_)
     refine goes_ Try.func17 (by kernel_rfl) rfl #[.agg #[.int .u32 t345, .int .i64 t346], .int .u32 a1] (by rfl) rfl rfl (by (try simp only [List.map_toArray, List.map_cons, List.map_nil]); first | done | rfl) ?_
     with_reducible refine (addr_Has.calls t345 t346 a1 t360 _ ba.out).mono ?_
     rintro e w290 ⟨rfl, hb⟩
     refine ⟨_, rfl, ?_⟩
     replace aa := Aside0.mk (ka6e7.q aa.out hb rfl)
     replace ab := Aside0.mk (ka6e7.q ab.out hb rfl)
     replace ac := Aside0.mk (ka6e7.q ac.out hb rfl)
     replace ae := Aside0.mk (ka6e7.q ae.out hb rfl)
     replace HB := Aside0.mk (below_step (by repeat (first | (with_reducible first | exact HB.out | apply below_alloc | apply pw_below_drewN | apply below_drew1 | refine below_set ?_ ag.out | refine below_set ?_ ah.out | refine below_set ?_ ai.out | refine below_set ?_ au.out) | exact HB.out)) hb)
     (try clear hb)
     (try clear a5)
     (try clear hk)
     (try clear hi)
     refine hK.out _ _ (ka6e7.b2 ab.out (ka6e7.b2e ac.out)) (fun hHeld => ?_)
     clear hK K
     refine norm_ (a' := ?_) ?_ ?_
     rotate_left
     ·show Act.put _ (some 67) _ = _
      simp only [Act.put, List.setIfInBounds_toArray, List.set_cons_zero, List.set_cons_succ, i64_w]
      rfl
     refine pure_ (i := 6) (N := some 68) (v := ?_) (a' := ?_) #[true, true, true, true, true, true, true, false] rfl rfl (any_of HT_.out (by kernel_rfl)) (fun _ _ _ h => h) (Or.inl ⟨by rfl, ?_⟩) ?_ ?_
     rotate_left
     ·intro w'
      go_simp
      with_reducible rfl
     rotate_left
     ·simp only [Act.put, List.setIfInBounds_toArray, List.set_cons_zero, List.set_cons_succ, i64_w]
      rfl
     refine pure_ (i := 7) (N := some 10) (v := ?_) (a' := ?_) #[true, true, true, true, true, true, true, true] rfl rfl (any_of HT_.out (by kernel_rfl)) (fun _ _ _ h => h) (Or.inl ⟨by rfl, ?_⟩) ?_ ?_
     rotate_left
     ·intro w'
      go_simp
      with_reducible rfl
     rotate_left
     ·simp only [Act.put, List.setIfInBounds_toArray, List.set_cons_zero, List.set_cons_succ, i64_w]
      rfl
     refine done_ (done_of HT_.out (by kernel_rfl)) ?_
     try go_wp2
     go_ret
     exact ⟨by first | rfl | (simp [errW_none, errW_some] <;> rfl) | (simp [*, errW_none, errW_some] <;> rfl), by repeat (first | (with_reducible first | exact HB.out | apply below_alloc | apply pw_below_drewN | apply below_drew1 | refine below_set ?_ ag.out | refine below_set ?_ ah.out | refine below_set ?_ ai.out | refine below_set ?_ au.out) | exact HB.out)⟩

end Go.Proofs.Ytckffheolnmcnaa.P

end
section
set_option linter.unusedVariables false
set_option linter.unusedSimpArgs false
namespace Go.Proofs.Ytckffheolnmcnaa
open Go.ChangeShapes Go.WideShapes Go.Proofs.YtckffheolnmcnaaW.PrintWords Go.Proofs.YtckffheolnmcnaaW.PrintLast Go.Proofs.YtckffheolnmcnaaW.PrintMore

/-- the ints of a kind -/
def okI (k : IntKind) (n : Int) : Prop := (Lit.int k n).wf = true
theorem okI_u32 {n : Int} (h : okI .u32 n) : 0 ≤ n ∧ n ≤ 4294967295 := by
  unfold okI Lit.wf at h; simp [IntKind.min, IntKind.max, IntKind.bits, IntKind.signed] at h; omega
/-- A reading of a type. -/
structure RV (P : Program) (t : TypeId) (α : Type) (d : Kd α) where
  ok : α → Prop
  sz : P.cellsOf t = d.sz
  opens : ∀ {H : Type} {enc : TypeId × Value → H} {w : World} {base : Nat} {spare : Nat → Bool} {held : Bool} {fuel : Nat} {cs : List Value} {x : DataW H × List MemPlace},
    DataW.trod enc P w base spare held fuel t cs = some x → (x.1.weights P t).all (· ≤ reachBytes) = true → ∃ a, d.K w a cs ∧ ok a
/-- A reading of a stretch of fields. -/
structure RF (P : Program) (fs : List Field) (off : Nat) (α : Type) where
  K : World → α → List Value → Prop
  ok : α → Prop
  opens : ∀ {H : Type} {enc : TypeId × Value → H} {w : World} {base : Nat} {spare : Nat → Bool} {held : Bool} {fuel : Nat} {cs : List Value} {ds : List (DataW H × List MemPlace)}, off ≤ cs.length →
    (∀ f, f ∈ fs → f.offset + P.cellsOf f.type ≤ cs.length) → (∀ (i : Nat) (f : Field), fs[i]? = some f → ∃ y, ds[i]? = some y ∧ DataW.trod enc P w base spare held fuel f.type ((cs.drop f.offset).take (P.cellsOf f.type)) = some y) →
    (DataW.weightsEach P (fs.map (·.type)) (ds.map (·.1))).all (· ≤ reachBytes) = true →
    (fs = [] → cs.length = off) → (∀ f, fs.getLast? = some f → f.offset + P.cellsOf f.type = cs.length) → ∃ a, K w a (cs.drop off) ∧ ok a

section
variable {P : Program} {t e : TypeId} {α β : Type} {d : Kd α}
def rInt (k : IntKind) (ht : P.underlying t = some (.int k)) (hc : P.cellsOf t = 1) : RV P t Int (Kd.int k) where
  ok := okI k
  sz := hc
  opens := fun h _ => by obtain ⟨n, h1, _, h3⟩ := DataW.trod_int ht h; exact ⟨n, h1, h3⟩
def fNil (off : Nat) : RF P [] off Unit where
  K := fun _ _ cs => cs = []
  ok := fun _ => True
  opens := fun _ _ _ _ h0 _ => ⟨(), by have := h0 rfl; simp [← this], trivial⟩
def fCons (f : Field) {fs : List Field} {off n : Nat} (ho : f.offset = off) (hn : P.cellsOf f.type = n) {d : Kd α} (V : RV P f.type α d) (F : RF P fs (off + n) β) : RF P (f :: fs) off (α × β) where
  K := fun w x cs => ∃ c c', cs = c ++ c' ∧ d.K w x.1 c ∧ F.K w x.2 c'
  ok := fun x => V.ok x.1 ∧ F.ok x.2
  opens := fun {H enc w base spare held fuel cs ds} hoff hle hy hw h0 hlast => by
    obtain ⟨y, hy1, hy0⟩ := hy 0 f rfl
    obtain ⟨ds, rfl⟩ : ∃ l, ds = y :: l := by
      cases ds with
      | nil => simp at hy1
      | cons z l => simp at hy1; subst hy1; exact ⟨l, rfl⟩
    rw [List.map_cons, List.map_cons, DataW.weightsEach, List.all_append, Bool.and_eq_true] at hw
    obtain ⟨a, ha, hka⟩ := V.opens hy0 hw.1
    have hl0 := hle f (by simp)
    rw [ho, hn] at hl0
    obtain ⟨b, hb, hkb⟩ := F.opens (cs := cs) (ds := ds) hl0 (fun g hg => hle g (by simp [hg])) (fun i g hg => hy (i + 1) g hg) hw.2 (fun h => by subst h; have := hlast f (by simp); rw [ho, hn] at this; exact this.symm)
      (fun g hg => hlast g (by cases fs with | nil => simp at hg | cons z zs => rw [List.getLast?_cons_cons]; exact hg))
    refine ⟨(a, b), ⟨(cs.drop off).take n, cs.drop (off + n), ?_, ?_, hb⟩, hka, hkb⟩
    · rw [← List.drop_drop, List.take_append_drop]
    · rw [ho, hn] at ha; exact ha
/-- the struct's cells end with its last field's -/
def fitsB (P : Program) (t : TypeId) (fs : List Field) : Bool := fs.all (fun f => decide (f.offset + P.cellsOf f.type ≤ P.cellsOf t)) && (match fs.getLast? with | some f => f.offset + P.cellsOf f.type == P.cellsOf t | none => P.cellsOf t == 0)
def rStruct {fs : Array Field} (ht : P.underlying t = some (.struct fs)) (hf : fitsB P t fs.toList = true) {d : Kd β} (hc : P.cellsOf t = d.sz) (F : RF P fs.toList 0 α) (f : α → β) (hK : ∀ w x cs, F.K w x cs → d.K w (f x) cs) (ok : β → Prop) (hok : ∀ x, F.ok x → ok (f x)) : RV P t β d where
  ok := ok
  sz := hc
  opens := fun {H enc w base spare held fuel cs x} h hw => by
    obtain ⟨xs, n, _, rfl, hl, hxl, hx⟩ := DataW.trod_struct ht h
    unfold fitsB at hf
    rw [Bool.and_eq_true] at hf
    obtain ⟨f1, f2⟩ := hf
    simp only [DataW.weights, ht] at hw
    obtain ⟨a, ha, hka⟩ := F.opens (enc := enc) (w := w) (base := base) (spare := spare) (held := held) (fuel := n) (cs := cs) (ds := xs) (Nat.zero_le _)
      (fun f hf => by rw [hl]; exact of_decide_eq_true (List.all_eq_true.1 f1 f hf))
      (fun i f hi => by
        have hi' : fs[i]? = some f := by rw [← Array.getElem?_toList]; exact hi
        have hlt : i < fs.size := by
          have := (List.getElem?_eq_some_iff.1 hi).1
          simpa using this
        have z := hx i f hi'
        rw [z]
        exact ⟨_, List.getElem?_eq_getElem (by omega), List.getElem?_eq_getElem (by omega)⟩)
      hw
      (fun h0 => by rw [h0] at f2; simp at f2; rw [hl]; exact f2)
      (fun f hf => by rw [hf] at f2; simp at f2; rw [hl]; exact f2)
    exact ⟨f a, hK _ _ _ (by simpa using ha), hok a hka⟩
end
end Go.Proofs.Ytckffheolnmcnaa

end
section
namespace Go.Proofs.Ytckffheolnmcnaa.P
open Go.Proofs.YtckffheolnmcnaaW.PrintWords Go.Proofs.YtckffheolnmcnaaW.PrintLast Go.Proofs.YtckffheolnmcnaaW.PrintMore
set_option linter.unusedVariables false
def r23 : RV Try.prog 23 Int (Kd.int .u32) := rInt .u32 Try.underlying23 (by kernel_rfl)
def r3 : RV Try.prog 3 Int (Kd.int .i64) := rInt .i64 Try.underlying3 (by kernel_rfl)
def ok30 (x : S30) : Prop := (okI .u32) x.f0 ∧ (okI .i64) x.f1
def r30 : RV Try.prog 30 S30 k30 := rStruct Try.underlying30 (by kernel_rfl) (by kernel_rfl) (fCons (n := 1) _ rfl (by kernel_rfl) r23 (fCons (n := 1) _ rfl (by kernel_rfl) r3 (fNil _))) (fun x => ⟨x.1, x.2.1⟩) (by rintro w x cs ⟨c0, _, rfl, h0, c1, _, rfl, h1, rfl⟩; exact ⟨c0, _, rfl, h0, (by rw [List.append_nil]; exact h1)⟩) ok30 (fun x h => ⟨h.1, h.2.1⟩)
end Go.Proofs.Ytckffheolnmcnaa.P

end
section
set_option linter.unusedVariables false
set_option linter.unusedSimpArgs false
namespace Go.Proofs.Ytckffheolnmcnaa.P
open Go.RowKit Go.Proofs.YtckffheolnmcnaaW.PrintWords Go.Proofs.YtckffheolnmcnaaW.PrintLast Go.Proofs.YtckffheolnmcnaaW.PrintMore

/-- how many addresses a prefix of so many bits has -/
def un (b : Int) : Int := 2 ^ (32 - b).toNat
theorem un_pos (b : Int) : 0 < un b := by
  unfold un
  have := Nat.two_pow_pos (32 - b).toNat
  have h2 : (0 : Int) < (((2 : Nat) ^ (32 - b).toNat : Nat) : Int) := by exact_mod_cast this
  simpa using h2
theorem un_succ (b : Int) (h : b < 32) : un b = 2 * un (b + 1) := by
  unfold un
  rw [show (32 - b).toNat = (32 - (b + 1)).toNat + 1 by omega, Int.pow_succ]; omega
/-- an address -/
def isA (a : Int) : Prop := 0 ≤ a ∧ a ≤ 4294967295
/-- may a prefix be? -/
def mayB (a b : Int) : Bool := decide (0 ≤ b) && (decide (b ≤ 32) && decide (a % un b = 0))
theorem mayB_iff (a b : Int) : mayB a b = true ↔ 0 ≤ b ∧ b ≤ 32 ∧ a % un b = 0 := by
  unfold mayB; simp
theorem mask_is (b : Int) (h0 : 0 ≤ b) (h1 : b ≤ 32) : addr_mask.f b = some (4294967296 - un b) := by
  unfold addr_mask.f
  by_cases h : b = 0
  · subst h; rfl
  · rw [if_neg h, wrap64_in _ (by omega) (by omega), if_pos (by omega)]
    have := shl_all (32 - b).toNat (by omega)
    rw [show (((32 - b).toNat : Nat) : Int) = 32 - b by omega] at this
    rw [this]; rfl
theorem may_is (a b : Int) (ha : isA a) : addr_May.f a b = some (mayB a b) := by
  unfold addr_May.f mayB
  by_cases h0 : 0 ≤ b
  · rw [if_pos h0]
    by_cases h1 : b ≤ 32
    · rw [if_pos h1, mask_is b h0 h1, Option.bind_some]
      have := andNot_mask a (32 - b).toNat ha.1 (by have := ha.2; omega) (by omega)
      unfold un
      rw [this]
      simp [h0, h1]
      rfl
    · rw [if_neg h1]; simp [h0, h1]
  · rw [if_neg h0]; simp [h0]
/-- does a prefix have an address? -/
def inB (a b x : Int) : Bool := decide (x - x % un b = a)
def hasB (a b x : Int) : Bool := mayB a b && inB a b x
theorem has_is (a b x : Int) (ha : isA a) (hx : isA x) : addr_Has.f a b x = some (hasB a b x) := by
  unfold addr_Has.f hasB
  rw [may_is a b ha, Option.bind_some]
  by_cases h : mayB a b = true
  · obtain ⟨h0, h1, h2⟩ := (mayB_iff a b).1 h
    rw [if_pos h, mask_is b h0 h1, Option.bind_some]
    have := and_mask x (32 - b).toNat hx.1 (by have := hx.2; omega) (by omega)
    unfold un
    rw [this, h]
    unfold inB un
    simp only [Bool.true_and]
    rfl
  · rw [if_neg h]
    simp at h
    rw [h]; rfl
/-- does a prefix contain another one? -/
def contB (a b c d : Int) : Bool := mayB c d && (decide (b ≤ d) && hasB a b c)
theorem contains_is (a b c d : Int) (ha : isA a) (hc : isA c) : addr_Contains.f a b c d = some (contB a b c d) := by
  unfold addr_Contains.f contB
  rw [may_is c d hc, Option.bind_some]
  by_cases h : mayB c d = true
  · rw [if_pos h, h]
    by_cases h1 : b ≤ d
    · rw [if_pos h1, has_is a b c ha hc, decide_eq_true h1]; rfl
    · rw [if_neg h1, decide_eq_false h1]; rfl
  · rw [if_neg h]; simp at h; rw [h]; rfl
end Go.Proofs.Ytckffheolnmcnaa.P

end
section
set_option linter.unusedVariables false
set_option linter.unusedSimpArgs false
namespace Go.Proofs.Ytckffheolnmcnaa.P
open Go.RowKit Go.Proofs.YtckffheolnmcnaaW.PrintWords Go.Proofs.YtckffheolnmcnaaW.PrintLast Go.Proofs.YtckffheolnmcnaaW.PrintMore

theorem sort_two : sortP [(⟨167772160, 9⟩ : S30), ⟨176160768, 9⟩] = [(⟨167772160, 9⟩ : S30), ⟨176160768, 9⟩] := by
  unfold sortP
  apply List.mergeSort_of_pairwise
  decide
theorem lives_ev : Evt (fun k => whirligiglaw01_lives.f k) true := by
  refine Evt.of_mono (K := 12) (fun k => whirligiglaw01_lives.mono k) ?_
  unfold whirligiglaw01_lives.f addr_Plain.f addr_plain.f
  rw [sort_two]
  decide +kernel
/-- the beginning of a prefix of v bits -/
def flo (a v : Int) : Int := a - a % un v
theorem flo_zero (a : Int) (ha : isA a) : flo a 0 = 0 := by
  have : un 0 = 4294967296 := rfl
  unfold flo; rw [this]; have := ha.1; have := ha.2; omega
theorem flo_isA (a v : Int) (ha : isA a) : isA (flo a v) := by
  have hp := un_pos v
  have h1 := Int.emod_nonneg a (show un v ≠ 0 by omega)
  have h2 := Int.emod_add_mul_ediv a (un v)
  have h3 : 0 ≤ un v * (a / un v) := Int.mul_nonneg (by omega) (Int.ediv_nonneg ha.1 (by omega))
  have := ha.1; have := ha.2
  unfold flo; constructor <;> omega
theorem flo_mod (a v : Int) : flo a v % un v = 0 := by
  have hp := un_pos v
  have h2 := Int.emod_add_mul_ediv a (un v)
  have : flo a v = un v * (a / un v) := by unfold flo; omega
  rw [this]; exact Int.mul_emod_right _ _
theorem flo_may (a v : Int) (h0 : 0 ≤ v) (h1 : v ≤ 32) : mayB (flo a v) v = true := (mayB_iff _ _).2 ⟨h0, h1, flo_mod a v⟩
theorem flo_self (a v : Int) (h : a % un v = 0) : flo a v = a := by unfold flo; omega
theorem mod_half (a v : Int) (h : v ≤ 32) : (a % un (v - 1)) % un v = a % un v := by
  rw [show un (v - 1) = 2 * un v by have := un_succ (v - 1) (by omega); rwa [show v - 1 + 1 = v by omega] at this]
  exact Int.emod_emod_of_dvd _ (Int.dvd_mul_left _ _)
/-- the halves of what is one bit shorter -/
theorem flo_down (a v : Int) (h : v ≤ 32) : flo (flo a v) (v - 1) = flo a (v - 1) ∧ (flo a v = flo a (v - 1) ∨ flo a v = flo a (v - 1) + un v) := by
  have e := mod_half a v h
  have hu : un (v - 1) = 2 * un v := by have := un_succ (v - 1) (by omega); rwa [show v - 1 + 1 = v by omega] at this
  have hp := un_pos v
  have h1 := Int.emod_nonneg a (show un (v - 1) ≠ 0 by omega)
  have h2 := Int.emod_lt_of_pos a (show 0 < un (v - 1) by omega)
  have hm := flo_mod a (v - 1)
  have hd : ∀ t, 0 ≤ t → t < un (v - 1) → (flo a (v - 1) + t) % un (v - 1) = t := by
    intro t t0 t1
    rw [Int.add_emod, hm, Int.zero_add, Int.emod_emod_of_dvd _ (Int.dvd_refl _), Int.emod_eq_of_lt t0 t1]
  unfold flo at *
  by_cases hc : a % un (v - 1) < un v
  · rw [Int.emod_eq_of_lt h1 hc] at e
    have e1 : a - a % un v = a - a % un (v - 1) := by rw [e]
    have := hd 0 (by omega) (by omega)
    rw [Int.add_zero] at this
    rw [e1, this]
    exact ⟨by omega, .inl rfl⟩
  · have e2 : (a % un (v - 1)) % un v = a % un (v - 1) - un v := by
      rw [← Int.sub_emod_right, Int.emod_eq_of_lt (by omega) (by omega)]
    rw [e2] at e
    have e1 : a - a % un v = a - a % un (v - 1) + un v := by rw [← e]; omega
    have := hd (un v) (by omega) (by omega)
    rw [e1, this]
    exact ⟨by omega, .inr rfl⟩
theorem flo_down_le : ∀ (n : Nat) (a v : Int), v ≤ 32 → flo (flo a v) (v - n) = flo a (v - n) := by
  intro n
  induction n with
  | zero => intro a v h; rw [show v - ((0 : Nat) : Int) = v by omega]; exact flo_self _ _ (flo_mod a v)
  | succ n ih =>
    intro a v h
    rw [show v - ((n + 1 : Nat) : Int) = v - n - 1 by omega, ← (flo_down (flo a v) (v - n) (by omega)).1, ih a v h, (flo_down a (v - n) (by omega)).1]
theorem flo_flo (a v u : Int) (h : v ≤ 32) (hu : u ≤ v) : flo (flo a v) u = flo a u := by
  have := flo_down_le (v - u).toNat a v h
  rwa [show v - (((v - u).toNat : Nat) : Int) = u by omega] at this
theorem mod_long (a b v : Int) (hv : v ≤ b) (hb : b ≤ 32) (h : a % un v = 0) : a % un b = 0 := by
  have h1 := flo_self a v h
  have h2 := flo_mod a b
  have h3 := flo_flo a b v hb hv
  have h4 := un_pos b
  have h5 := Int.emod_nonneg a (show un b ≠ 0 by omega)
  have h6 : un v = un b * 2 ^ (b - v).toNat := by
    unfold un
    rw [← Int.pow_add, show (32 - b).toNat + (b - v).toNat = (32 - v).toNat by omega]
  have h7 : un b ∣ a := Int.dvd_trans ⟨_, h6⟩ (Int.dvd_of_emod_eq_zero h)
  exact Int.emod_eq_zero_of_dvd h7
/-- stands a at v with c? -/
def good (a c d v : Int) : Prop := v ≤ d ∧ flo a v = flo c v
theorem cont_at (a c d v : Int) (ha : isA a) (hc : isA c) (hd : mayB c d = true) (h0 : 0 ≤ v) (h1 : v ≤ 32) : contB (flo a v) v c d = true ↔ good a c d v := by
  unfold contB hasB inB good
  rw [hd, flo_may a v h0 h1]
  simp only [Bool.true_and, Bool.and_eq_true, decide_eq_true_eq]
  constructor
  · rintro ⟨h2, h3⟩; exact ⟨h2, h3.symm⟩
  · rintro ⟨h2, h3⟩; exact ⟨h2, h3.symm⟩
theorem aboveLoop_ev (a b c d : Int) (ha : isA a) (hc : isA c) (hb : b ≤ 32) (hd : mayB c d = true) : ∀ (n : Nat) (v : Int), v.toNat = n → 0 ≤ v → v ≤ b → (∀ v', v < v' → v' ≤ b → ¬ good a c d v') →
    ∃ u, 0 ≤ u ∧ u ≤ b ∧ good a c d u ∧ (∀ v', u < v' → v' ≤ b → ¬ good a c d v') ∧ Evt (fun k => addr_Above.l0 k (flo a v) v c d) (flo a u, u, 0) := by
  intro n
  induction n with
  | zero =>
    intro v hn h0 h1 hmax
    obtain rfl : v = 0 := by omega
    have hg : good a c d 0 := ⟨((mayB_iff c d).1 hd).1, by rw [flo_zero a ha, flo_zero c hc]⟩
    refine ⟨0, h0, h1, hg, hmax, Evt.step ?_⟩
    simp only [addr_Above.l0]
    refine Evt.bindc (contains_is _ _ _ _ (flo_isA a 0 ha) hc) ?_
    refine Evt.ite_pos ((cont_at a c d 0 ha hc hd (by omega) (by omega)).2 hg) (Evt.of fun k => rfl)
  | succ n ih =>
    intro v hn h0 h1 hmax
    by_cases hg : good a c d v
    · refine ⟨v, h0, h1, hg, hmax, Evt.step ?_⟩
      simp only [addr_Above.l0]
      refine Evt.bindc (contains_is _ _ _ _ (flo_isA a v ha) hc) ?_
      exact Evt.ite_pos ((cont_at a c d v ha hc hd (by omega) (by omega)).2 hg) (Evt.of fun k => rfl)
    · obtain ⟨u, u0, u1, u2, u3, u4⟩ := ih (v - 1) (by omega) (by omega) (by omega) (fun v' h h' => by
        by_cases e : v' = v
        · subst e; exact hg
        · exact hmax v' (by omega) h')
      refine ⟨u, u0, u1, u2, u3, Evt.step ?_⟩
      simp only [addr_Above.l0]
      refine Evt.bindc (contains_is _ _ _ _ (flo_isA a v ha) hc) ?_
      refine Evt.ite_neg (fun h => hg ((cont_at a c d v ha hc hd (by omega) (by omega)).1 h)) ?_
      rw [wrap64_in _ (by omega) (by omega)]
      refine Evt.bindc (mask_is (v - 1) (by omega) (by omega)) ?_
      have hf := flo_isA a v ha
      have := and_mask (flo a v) (32 - (v - 1)).toNat hf.1 (by have := hf.2; omega) (by omega)
      have e : bits .and .u32 (flo a v) (4294967296 - un (v - 1)) = flo a (v - 1) := by
        rw [← (flo_down a v (by omega)).1]; exact this
      rw [e]
      exact u4
/-- what stands above two -/
def isTop (a b c d u : Int) : Prop := 0 ≤ u ∧ u ≤ b ∧ u ≤ d ∧ flo a u = flo c u ∧ ∀ v, u < v → v ≤ b → v ≤ d → flo a v ≠ flo c v
theorem isTop.symm {a b c d u : Int} (h : isTop a b c d u) : isTop c d a b u := ⟨h.1, h.2.2.1, h.2.1, h.2.2.2.1.symm, fun v h1 h2 h3 e => h.2.2.2.2 v h1 h3 h2 e.symm⟩
theorem above_ev (a b c d : Int) (ha : isA a) (hc : isA c) (hb : mayB a b = true) (hd : mayB c d = true) : ∃ u, isTop a b c d u ∧ Evt (fun k => addr_Above.f k a b c d) (flo a u, u, 0) := by
  obtain ⟨b0, b1, b2⟩ := (mayB_iff a b).1 hb
  obtain ⟨u, u0, u1, u2, u3, u4⟩ := aboveLoop_ev a b c d ha hc b1 hd b.toNat b rfl b0 (by omega) (fun v' h h' => by omega)
  refine ⟨u, ⟨u0, u1, u2.1, u2.2, fun v h1 h2 h3 e => u3 v h1 h2 ⟨h3, e⟩⟩, ?_⟩
  unfold addr_Above.f
  refine Evt.bindc (may_is a b ha) (Evt.ite_pos hb ?_)
  refine Evt.bindc (may_is c d hc) ?_
  refine Evt.step ?_
  simp only [addr_Above.j0]
  refine Evt.ite_neg (by rw [hd]; decide) ?_
  rw [flo_self a b b2] at u4
  exact u4
theorem top_le (a b : Int) (ha : isA a) (hb : mayB a b = true) : a + un b ≤ 4294967296 := by
  obtain ⟨b0, b1, b2⟩ := (mayB_iff a b).1 hb
  have h6 : (4294967296 : Int) = un b * 2 ^ b.toNat := by
    unfold un
    rw [← Int.pow_add, show (32 - b).toNat + b.toNat = 32 by omega]; rfl
  have h7 : un b ∣ 4294967296 - a := Int.dvd_sub ⟨_, h6⟩ (Int.dvd_of_emod_eq_zero b2)
  have := Int.le_of_dvd (by have := ha.2; omega) h7
  omega
theorem shl_one' (n : Nat) (hn : n ≤ 31) : shl .u32 1 n = 2 ^ n := by
  have : ∀ n : Fin 32, shl .u32 1 n.val = 2 ^ n.val := by decide +kernel
  exact this ⟨n, by omega⟩
theorem halves_is (a b : Int) (ha : isA a) (hb : mayB a b = true) (h : b ≠ 32) : addr_Halves.f a b = some (a, b + 1, a + un (b + 1), b + 1, 0) := by
  obtain ⟨b0, b1, b2⟩ := (mayB_iff a b).1 hb
  unfold addr_Halves.f
  rw [may_is a b ha, Option.bind_some, if_pos hb, if_neg h]
  unfold addr_halves.f
  rw [wrap64_in (31 - b) (by omega) (by omega), wrap64_in (b + 1) (by omega) (by omega), if_pos (by omega)]
  have e1 := shl_one' (31 - b).toNat (by omega)
  rw [show (((31 - b).toNat : Nat) : Int) = 31 - b by omega] at e1
  have e2 : (2 : Int) ^ (31 - b).toNat = un (b + 1) := by unfold un; rw [show (32 - (b + 1)).toNat = (31 - b).toNat by omega]
  have hu := un_succ b (by omega)
  have hp := un_pos (b + 1)
  have e3 := or_join a (un (b + 1)) (32 - b).toNat (by omega) ha.1 b2 (by have := ha.2; omega) (by omega) (by show un (b + 1) < un b; omega)
  rw [e1, e2, e3]; rfl
theorem before_is (a b c d : Int) (ha : isA a) (hc : isA c) : addr_Before.f a b c d = some (mayB a b && (mayB c d && decide (a < c ∨ a = c ∧ b < d))) := by
  unfold addr_Before.f addr_before.f
  rw [may_is a b ha, Option.bind_some]
  by_cases h : mayB a b = true
  · rw [if_pos h, h, may_is c d hc, Option.bind_some]
    by_cases g : mayB c d = true
    · rw [if_pos g, g]
      by_cases e : a < c
      · rw [if_pos e]; simp [e]
      · rw [if_neg e]
        by_cases e2 : a = c
        · rw [if_pos e2]; simp [e, e2]
        · rw [if_neg e2]; simp [e, e2]
    · rw [if_neg g]; simp at g; rw [g]; rfl
  · rw [if_neg h]; simp at h; rw [h]; rfl
end Go.Proofs.Ytckffheolnmcnaa.P

end
section
namespace Go.Proofs.Ytckffheolnmcnaa.Pure
open Go.RowKit Go.Proofs.Ytckffheolnmcnaa.P Go.Proofs.YtckffheolnmcnaaW.PrintWords Go.Proofs.YtckffheolnmcnaaW.PrintLast Go.Proofs.YtckffheolnmcnaaW.PrintMore
set_option linter.unusedVariables false
set_option linter.unusedSimpArgs false

theorem halves_has (a b z : Int) (ha : isA a) (hb : mayB a b = true) (h : b ≠ 32) : ((hasB a (b + 1) z != hasB (a + un (b + 1)) (b + 1) z) == hasB a b z) = true := by
  obtain ⟨b0, b1, b2⟩ := (mayB_iff a b).1 hb
  have hu := un_succ b (by omega)
  have hp := un_pos (b + 1)
  have h1 : a % un (b + 1) = 0 := mod_long a (b + 1) b (by omega) (by omega) b2
  have h2 : (a + un (b + 1)) % un (b + 1) = 0 := by rw [Int.add_emod_right]; exact h1
  have m1 : mayB a (b + 1) = true := (mayB_iff _ _).2 ⟨by omega, by omega, h1⟩
  have m2 : mayB (a + un (b + 1)) (b + 1) = true := (mayB_iff _ _).2 ⟨by omega, by omega, h2⟩
  obtain ⟨e1, e2⟩ := flo_down z (b + 1) (by omega)
  rw [show b + 1 - 1 = b by omega] at e1 e2
  unfold hasB inB
  rw [m1, m2, hb]
  have k1 : z - z % un (b + 1) = flo z (b + 1) := rfl
  have k2 : z - z % un b = flo z b := rfl
  rw [k1, k2]
  have hm := flo_mod z b
  by_cases q : flo z b = a
  · rcases e2 with e2 | e2
    · have q1 : flo z (b + 1) = a := by omega
      have q2 : ¬ flo z (b + 1) = a + un (b + 1) := by omega
      simp [q, q1, q2]; omega
    · have q1 : ¬ flo z (b + 1) = a := by omega
      have q2 : flo z (b + 1) = a + un (b + 1) := by omega
      simp [q, q1, q2]; omega
  · have q1 : ¬ flo z (b + 1) = a := by
      intro e
      apply q
      rw [e] at e1
      rw [← e1]; exact flo_self a b b2
    have q2 : ¬ flo z (b + 1) = a + un (b + 1) := by
      intro e
      apply q
      rw [e] at e1
      rw [← e1]
      have : (a + un (b + 1)) % un b = un (b + 1) := by
        rw [Int.add_emod, b2, Int.zero_add, Int.emod_emod_of_dvd _ (Int.dvd_refl _), Int.emod_eq_of_lt (by omega) (by omega)]
      unfold flo; omega
    simp [q, q1, q2]
theorem halves_top (a b u : Int) (ha : isA a) (hb : mayB a b = true) (h : b ≠ 32) (ht : isTop a (b + 1) (a + un (b + 1)) (b + 1) u) : u = b ∧ flo a u = a := by
  obtain ⟨b0, b1, b2⟩ := (mayB_iff a b).1 hb
  have hu := un_succ b (by omega)
  have hp := un_pos (b + 1)
  have h1 : a % un (b + 1) = 0 := mod_long a (b + 1) b (by omega) (by omega) b2
  have h2 : (a + un (b + 1)) % un (b + 1) = 0 := by rw [Int.add_emod_right]; exact h1
  have h3 : (a + un (b + 1)) % un b = un (b + 1) := by
    rw [Int.add_emod, b2, Int.zero_add, Int.emod_emod_of_dvd _ (Int.dvd_refl _), Int.emod_eq_of_lt (by omega) (by omega)]
  have g1 : flo a b = a := flo_self _ _ b2
  have g2 : flo (a + un (b + 1)) b = a := by unfold flo; omega
  obtain ⟨u0, u1, u2, u3, u4⟩ := ht
  have e : u = b := by
    rcases Int.lt_trichotomy u b with e | e | e
    · exact absurd (g1.trans g2.symm) (u4 b e (by omega) (by omega))
    · exact e
    · exfalso
      obtain rfl : u = b + 1 := by omega
      rw [flo_self _ _ h1, flo_self _ _ h2] at u3
      omega
  subst e
  exact ⟨rfl, g1⟩
theorem AddrHalves (x0 : S30) (x1 : Int) (ok_0 : (ok30) x0) (ok_1 : (okI .u32) x1) : ∃ k, Go.Proofs.Ytckffheolnmcnaa.P.whirligiglaw01_AddrHalves.f k x0.f0 x0.f1 x1 = some true := by
  obtain ⟨a, b⟩ := x0
  have ha : isA a := okI_u32 ok_0.1
  have hz : isA x1 := okI_u32 ok_1
  show ∃ k, Go.Proofs.Ytckffheolnmcnaa.P.whirligiglaw01_AddrHalves.f k a b x1 = some true
  refine Evt.ex ?_
  have hL : Evt (fun k => (whirligiglaw01_lives.f k).bind fun t => some t) true := Evt.bind lives_ev (Evt.pure _)
  unfold whirligiglaw01_AddrHalves.f
  by_cases hb : mayB a b = true
  · by_cases h : b = 32
    · subst h
      have e : addr_Halves.f a 32 = some (0, 0, 0, 0, 5) := by unfold addr_Halves.f; rw [may_is a 32 ha, Option.bind_some, if_pos hb, if_pos rfl]
      refine Evt.bindc e (Evt.bindc (may_is a 32 ha) (Evt.ite_pos hb (Evt.step ?_)))
      simp only [whirligiglaw01_AddrHalves.j0]
      refine Evt.ite_pos rfl (Evt.bindc (may_is a 32 ha) ?_)
      rw [hb]
      refine Evt.ite_pos rfl (Evt.bindc (may_is a 32 ha) (Evt.ite_pos hb (Evt.ite_pos rfl (Evt.ite_pos rfl (Evt.ite_pos rfl hL)))))
    · obtain ⟨b0, b1, b2⟩ := (mayB_iff a b).1 hb
      have hu := un_succ b (by omega)
      have hp := un_pos (b + 1)
      have h1 : a % un (b + 1) = 0 := mod_long a (b + 1) b (by omega) (by omega) b2
      have h2 : (a + un (b + 1)) % un (b + 1) = 0 := by rw [Int.add_emod_right]; exact h1
      have m1 : mayB a (b + 1) = true := (mayB_iff _ _).2 ⟨by omega, by omega, h1⟩
      have m2 : mayB (a + un (b + 1)) (b + 1) = true := (mayB_iff _ _).2 ⟨by omega, by omega, h2⟩
      have hy : isA (a + un (b + 1)) := by
        have := top_le _ _ ha hb
        have := ha.1
        constructor <;> omega
      obtain ⟨u, ht, hv⟩ := above_ev a (b + 1) (a + un (b + 1)) (b + 1) ha hy m1 m2
      obtain ⟨rfl, hf⟩ := halves_top a b u ha hb h ht
      rw [hf] at hv
      refine Evt.bindc (halves_is a u ha hb h) (Evt.bindc (may_is a u ha) (Evt.ite_pos hb (Evt.step ?_)))
      simp only [whirligiglaw01_AddrHalves.j0]
      refine Evt.ite_neg (by simpa using h) (Evt.bind hv (Evt.bindc (has_is _ _ _ ha hz) (Evt.bindc (has_is _ _ _ hy hz) ?_)))
      refine Evt.ite_pos (by first | rfl | trivial) (Evt.ite_pos (by first | rfl | trivial) (Evt.ite_pos (by simp) (Evt.bindc (may_is _ _ ha) (Evt.ite_pos m1 (Evt.bindc (may_is _ _ hy) (Evt.ite_pos m2 (Evt.bindc (has_is _ _ _ ha hz) ?_)))))))
      refine Evt.ite_pos (halves_has a u x1 ha hb h) (Evt.bindc (before_is _ _ _ _ ha hy) (Evt.ite_pos ?_ hL))
      rw [m1, m2]; simp; omega
  · have e : addr_Halves.f a b = some (0, 0, 0, 0, 1) := by unfold addr_Halves.f; rw [may_is a b ha, Option.bind_some, if_neg hb]
    refine Evt.bindc e (Evt.bindc (may_is a b ha) (Evt.ite_neg hb (Evt.step ?_)))
    simp only [whirligiglaw01_AddrHalves.j0]
    refine Evt.ite_pos trivial (Evt.bindc (may_is a b ha) ?_)
    have hb' : mayB a b = false := by simpa using hb
    rw [hb']
    exact Evt.ite_pos rfl (Evt.bindc (may_is a b ha) (Evt.ite_neg hb (Evt.ite_pos rfl (Evt.ite_pos rfl (Evt.ite_pos rfl hL)))))
end Go.Proofs.Ytckffheolnmcnaa.Pure

end

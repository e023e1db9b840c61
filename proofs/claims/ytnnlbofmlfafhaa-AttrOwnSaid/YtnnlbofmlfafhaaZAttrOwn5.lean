/- Part of the proof of RowAttrOwn: what it asks of functions, words and plain facts (put together by this session's own program, wip/tools/shake.py). -/
import Derived.Test.YtnnlbofmlfafhaaZAttrOwn0
import Derived.Test.YtnnlbofmlfafhaaZAttrOwn1
import Derived.Test.YtnnlbofmlfafhaaZAttrOwn2
import Derived.Test.YtnnlbofmlfafhaaZAttrOwn3
import Derived.Test.YtnnlbofmlfafhaaZAttrOwn4
import Derived.Deep.Slices
import Derived.ChangeArms
import Derived.OpenShut
import Derived.SizedLaws
import Derived.KernelRfl
section
namespace Go.Proofs.Ytnnlbofmlfafhaa.P
open Go.RowKit Go.Proofs.YtnnlbofmlfafhaaW.PrintWords Go.Proofs.YtnnlbofmlfafhaaW.PrintLast Go.Proofs.YtnnlbofmlfafhaaW.PrintMore
attribute [local go_sem] max2_int min2_int max_two min_two max_three min_three max_four min_four   -- for this text's walks alone
set_option linter.unusedVariables false
set_option linter.unusedSimpArgs false

mutual
def whirligiglaw09_AttrOwn.j0 : Nat → Bool → Int → Int → Int → List Int → List (S63) → Int → List Int → Int → Int → Int → List (S63) → List (S63) → Bool → List Int → Option (Bool)
  | 0, _, _, _, _, _, _, _, _, _, _, _, _, _, _, _ => none
  | k + 1, x18, x474000, x474001, x474002, x474003, x474004, x474005, x474006, x475000, x475001, x475002, x475003, x475004, x475005, x475006 => if x18 = true then ((whirligiglaw09_lives.f k).bind fun t477 => (some t477)) else ((attr_Text.f k x474000 x474001 x474002 x474003 x474004 x474005 x474006).bind fun t478 => ((attr_Copy.f x474000 x474001 x474002 x474003 x474004 x474005 x474006).bind fun bt479 => ((attr_Same.f k bt479.1 bt479.2.1 bt479.2.2.1 bt479.2.2.2.1 bt479.2.2.2.2.1 bt479.2.2.2.2.2.1 bt479.2.2.2.2.2.2 x474000 x474001 x474002 x474003 x474004 x474005 x474006).bind fun t493 => (if t493 = true then (if ([] : List Int).length + x475006.length < 17592186044416 then ((attr_Do.f k x474000 x474001 x474002 x474003 x474004 x474005 x474006 x475000 x475001 x475002 x475003 x475004 x475005 x475006).bind fun bt497 => ((whirligiglaw09_spoil.f k bt479.1 bt479.2.1 bt479.2.2.1 bt479.2.2.2.1 bt479.2.2.2.2.1 bt479.2.2.2.2.2.1 bt479.2.2.2.2.2.2).bind fun bt512 => ((whirligiglaw09_spoil.f k bt497.1 bt497.2.1 bt497.2.2.1 bt497.2.2.2.1 bt497.2.2.2.2.1 bt497.2.2.2.2.2.1 bt497.2.2.2.2.2.2.1).bind fun bt515 => (whirligiglaw09_AttrOwn.l0 k t478 (([] : List Int) ++ x475006) 0 x474000 x474001 x474002 x474003 x474004 x474005 x474006 x475000 x475001 x475002 x475003 x475004 x475005 x475006)))) else (none)) else (some false)))))
def whirligiglaw09_AttrOwn.l0 : Nat → ByteArray → List Int → Int → Int → Int → Int → List Int → List (S63) → Int → List Int → Int → Int → Int → List (S63) → List (S63) → Bool → List Int → Option (Bool)
  | 0, _, _, _, _, _, _, _, _, _, _, _, _, _, _, _, _, _ => none
  | k + 1, x5, x7, x10, x474000, x474001, x474002, x474003, x474004, x474005, x474006, x475000, x475001, x475002, x475003, x475004, x475005, x475006 => if x10 < (x7.length : Int) then (if 0 ≤ x10 then (if x10 < (x475006.length : Int) then (if (rd x475006 x10) = (rd x7 x10) then (whirligiglaw09_AttrOwn.l0 k x5 x7 (wrap64 (x10 + 1)) x474000 x474001 x474002 x474003 x474004 x474005 x474006 x475000 x475001 x475002 x475003 x475004 x475005 x475006) else (some false)) else (none)) else (none)) else ((attr_Text.f k x474000 x474001 x474002 x474003 x474004 x474005 x474006).bind fun t520 => (if t520.toList = x5.toList then ((whirligiglaw09_lives.f k).bind fun t521 => (some t521)) else (some false)))
end
def whirligiglaw09_AttrOwn.f (k : Nat) (a0_0 : Int) (a0_1 : Int) (a0_2 : Int) (l0_3 : List Int) (l0_4 : List (S63)) (a0_5 : Int) (l0_6 : List Int) (a1_0 : Int) (a1_1 : Int) (a1_2 : Int) (l1_3 : List (S63)) (l1_4 : List (S63)) (a1_5 : Bool) (l1_6 : List Int) : Option (Bool) := (whirligigref09_Few.f a0_0 a0_1 a0_2 l0_3 l0_4 a0_5 l0_6).bind fun t475 => (if t475 = true then ((whirligigref09_FewSet.f a1_0 a1_1 a1_2 l1_3 l1_4 a1_5 l1_6).bind fun t476 => (whirligiglaw09_AttrOwn.j0 k (!t476) a0_0 a0_1 a0_2 l0_3 l0_4 a0_5 l0_6 a1_0 a1_1 a1_2 l1_3 l1_4 a1_5 l1_6)) else (whirligiglaw09_AttrOwn.j0 k true a0_0 a0_1 a0_2 l0_3 l0_4 a0_5 l0_6 a1_0 a1_1 a1_2 l1_3 l1_4 a1_5 l1_6))
def whirligiglaw09_AttrOwn.T14 : Bool × List (List Nat × List Nat) := (true, [([], []), ([0], [0]), ([], []), ([1, 2], [1, 2]), ([3], [3]), ([], []), ([], []), ([5, 6], [5, 6]), ([7], [7]), ([4, 8], [4, 8])])
def whirligiglaw09_AttrOwn.B14 : List Nat := [0, 1, 0, 7, 15, 0, 0, 96, 224, 511]
theorem whirligiglaw09_AttrOwn.tab14 : rtab .any (opsOf Try.f7 14) = whirligiglaw09_AttrOwn.T14 := by kernel_rfl
theorem whirligiglaw09_AttrOwn.bits14 : waitsOk whirligiglaw09_AttrOwn.T14.2 whirligiglaw09_AttrOwn.B14 = true := by kernel_rfl
theorem ka4b4.b7 {W : World} {g : Nat} {v0 v1 v2 v3 v4 v5 v6 : Value} {t : TypeId} (h : W.heap[g]? = some (.cells #[v0, v1, v2, v3, v4, v5, v6] t (0, 0))) {R : Prop} (r : R) : W.cell? ⟨g, 0, none⟩ = some v0 ∧ W.cell? ⟨g, 1, none⟩ = some v1 ∧ W.cell? ⟨g, 2, none⟩ = some v2 ∧ W.cell? ⟨g, 3, none⟩ = some v3 ∧ W.cell? ⟨g, 4, none⟩ = some v4 ∧ W.cell? ⟨g, 5, none⟩ = some v5 ∧ W.cell? ⟨g, 6, none⟩ = some v6 ∧ R :=
  ⟨(blk_cell h 0).trans rfl, (blk_cell h 1).trans rfl, (blk_cell h 2).trans rfl, (blk_cell h 3).trans rfl, (blk_cell h 4).trans rfl, (blk_cell h 5).trans rfl, (blk_cell h 6).trans rfl, r⟩
theorem ka4b4.b7e {W : World} {g : Nat} {v0 v1 v2 v3 v4 v5 v6 : Value} {t : TypeId} (h : W.heap[g]? = some (.cells #[v0, v1, v2, v3, v4, v5, v6] t (0, 0))) : W.cell? ⟨g, 0, none⟩ = some v0 ∧ W.cell? ⟨g, 1, none⟩ = some v1 ∧ W.cell? ⟨g, 2, none⟩ = some v2 ∧ W.cell? ⟨g, 3, none⟩ = some v3 ∧ W.cell? ⟨g, 4, none⟩ = some v4 ∧ W.cell? ⟨g, 5, none⟩ = some v5 ∧ W.cell? ⟨g, 6, none⟩ = some v6 :=
  ⟨(blk_cell h 0).trans rfl, (blk_cell h 1).trans rfl, (blk_cell h 2).trans rfl, (blk_cell h 3).trans rfl, (blk_cell h 4).trans rfl, (blk_cell h 5).trans rfl, (blk_cell h 6).trans rfl⟩
theorem ka4b4.q {w W W' : World} {g : Nat} {o : Obj} (h : w.heap[g]? = some o) (hb : Below W.heap.size W W') (e : W.heap = w.heap) : W'.heap[g]? = some o := blk_below (e ▸ h) hb
theorem ka4b4.z {w0 w W W' : World} (h : Below w0.heap.size w0 w) (hb : Below W.heap.size W W') (e : W.heap = w.heap) (e1 : W.os = w.os) (e2 : W.tape = w.tape) (e3 : W.output = w.output) : Below w0.heap.size w0 W' := below_step ⟨e1.trans h.os, e2.trans h.tape, e3.trans h.output, e ▸ h.size, fun k hk => by rw [e]; exact h.block k hk⟩ hb
@[reducible] def ka4b4.S0 (g0 : Nat) (v0 v1 v2 v3 v4 v5 v6 : Value) (w' : World) : Prop := w'.cell? ⟨g0, 0, none⟩ = some v0 ∧ w'.cell? ⟨g0, 1, none⟩ = some v1 ∧ w'.cell? ⟨g0, 2, none⟩ = some v2 ∧ w'.cell? ⟨g0, 3, none⟩ = some v3 ∧ w'.cell? ⟨g0, 4, none⟩ = some v4 ∧ w'.cell? ⟨g0, 5, none⟩ = some v5 ∧ w'.cell? ⟨g0, 6, none⟩ = some v6
set_option maxHeartbeats 8000000 in
set_option maxRecDepth 100000 in
theorem whirligiglaw09_AttrOwn.calls (k : Nat) (ax : Int) (ay : Int) (az : Int) (bb : Option Addr) (bc : Nat) (au : List Int) (bd : Option Addr) (be : Nat) (av : List (S63)) (ba : Int) (bf : Option Addr) (bg : Nat) (aw : List Int) (bk : Int) (bl : Int) (bm : Int) (bu : Option Addr) (bv : Nat) (bi : List (S63)) (bw : Option Addr) (bx : Nat) (bj : List (S63)) (bn : Bool) (b4 : Option Addr) (bz : Nat) (bh : List Int) (r : Bool) (w : World) (hr0_3 : Kd.C (Kd.int .i64) w bb au.length au) (hc0_3 : au.length ≤ bc) (hr0_4 : Kd.C k63 w bd av.length av) (hc0_4 : av.length ≤ be) (hr0_6 : Kd.C (Kd.int .i64) w bf aw.length aw) (hc0_6 : aw.length ≤ bg) (hr1_3 : Kd.C k63 w bu bi.length bi) (hc1_3 : bi.length ≤ bv) (hr1_4 : Kd.C k63 w bw bj.length bj) (hc1_4 : bj.length ≤ bx) (hr1_6 : Kd.C (Kd.int .i64) w b4 bh.length bh) (hc1_6 : bh.length ≤ bz) (h : whirligiglaw09_AttrOwn.f k ax ay az au av ba aw bk bl bm bi bj bn bh = some r) :
  Calls Try.prog 7 #[.agg #[.int .i64 ax, .int .i64 ay, .int .i64 az, .slice bb au.length bc, .slice bd av.length be, .int .i64 ba, .slice bf aw.length bg], .agg #[.int .i64 bk, .int .i64 bl, .int .i64 bm, .slice bu bi.length bv, .slice bw bj.length bx, .bool bn, .slice b4 bh.length bz]] w fun e w' => e = .returned (.bool r) ∧ Below w.heap.size w w' := by
 have hu30 := Try.underlying30
 have hu37 := Try.underlying37
 have db := Aside0.mk hr0_3
 have dc := Aside0.mk hc0_3
 clear hr0_3 hc0_3
 have dd := Aside0.mk hr0_4
 have de := Aside0.mk hc0_4
 clear hr0_4 hc0_4
 have df := Aside0.mk hr0_6
 have dg := Aside0.mk hc0_6
 clear hr0_6 hc0_6
 have HR1_3 := Aside0.mk hr1_3
 have HC1_3 := Aside0.mk hc1_3
 clear hr1_3 hc1_3
 have HR1_4 := Aside0.mk hr1_4
 have HC1_4 := Aside0.mk hc1_4
 clear hr1_4 hc1_4
 have HR1_6 := Aside0.mk hr1_6
 have HC1_6 := Aside0.mk hc1_6
 clear hr1_6 hc1_6
 have HB := Aside0.mk (Below.refl w.heap.size w)
 have H := h
 unfold whirligiglaw09_AttrOwn.f at H
 clear h
 have HC3 := Aside0.mk H
 clear H
 go_enter Try.func7, Try.ntmps7
 go_upto_region 1 with (first | ((with_reducible refine gate_dst (N := 2) rfl ?_); refine box_event ?hg (N := 2) ?hd (cs := #[.int .i64 ax, .int .i64 ay, .int .i64 az, .slice bb au.length bc, .slice bd av.length be, .int .i64 ba, .slice bf aw.length bg]) (t := 30) ?hr ?_; (case hd => rfl); (case hg => rfl); (case hr => first | (go_simp; done) | (go_simp; rfl)); intro af hg w4 hbox hb; have n0_ := Aside0.mk (ka4b4.z HB.out hb rfl rfl rfl rfl); have n1_ := Aside0.mk (hbox); have n2_ := Aside0.mk ((by rw [hg]; exact (below_size (by repeat (first | (with_reducible first | exact HB.out | apply below_alloc | apply pw_below_drewN | apply below_drew1) | exact HB.out))) : w.heap.size ≤ af)); have n3_ := Aside0.mk ((by rw [hg]; exact (below_size (by repeat (first | (with_reducible first | exact HB.out | apply below_alloc | apply pw_below_drewN | apply below_drew1) | exact HB.out))) : w.heap.size ≤ af)); clear HB; have HB := n0_; have ac := n1_; have GW473 := n2_; have ah := n3_; clear n0_ n1_ n2_ n3_; clear hb hbox hg) | ((with_reducible refine gate_dst (N := 3) rfl ?_); refine box_event ?hg (N := 3) ?hd (cs := #[.int .i64 bk, .int .i64 bl, .int .i64 bm, .slice bu bi.length bv, .slice bw bj.length bx, .bool bn, .slice b4 bh.length bz]) (t := 37) ?hr ?_; (case hd => rfl); (case hg => rfl); (case hr => first | (go_simp; done) | (go_simp; rfl)); intro aj hg w5 hbox hb; have n0_ := Aside0.mk (ka4b4.q ac.out hb rfl); have n1_ := Aside0.mk (below_step (by repeat (first | (with_reducible first | exact HB.out | apply below_alloc | apply pw_below_drewN | apply below_drew1 | refine below_set ?_ ah.out) | exact HB.out)) hb); have n2_ := Aside0.mk (hbox); have n3_ := Aside0.mk ((by rw [hg]; exact (below_size (by repeat (first | (with_reducible first | exact HB.out | apply below_alloc | apply pw_below_drewN | apply below_drew1 | refine below_set ?_ ah.out) | exact HB.out))) : w.heap.size ≤ aj)); have n4_ := Aside0.mk ((by rw [hg]; exact (below_size (by repeat (first | (with_reducible first | exact HB.out | apply below_alloc | apply pw_below_drewN | apply below_drew1 | refine below_set ?_ ah.out) | exact HB.out))) : w.heap.size ≤ aj)); have n5_ := Aside0.mk ((by rw [hg]; exact Nat.ne_of_lt (blk_lt (g := af) (o := .cells #[.int .i64 ax, .int .i64 ay, .int .i64 az, .slice bb au.length bc, .slice bd av.length be, .int .i64 ba, .slice bf aw.length bg] 30 (0, 0)) (by (with_reducible repeat (first | refine blk_drewN ?_ _ | refine blk_drew ?_ | refine blk_alloc ?_ _)); exact ac.out)) : af ≠ aj)); have n6_ := Aside0.mk ((by rw [hg]; exact Nat.ne_of_gt (blk_lt (g := af) (o := .cells #[.int .i64 ax, .int .i64 ay, .int .i64 az, .slice bb au.length bc, .slice bd av.length be, .int .i64 ba, .slice bf aw.length bg] 30 (0, 0)) (by (with_reducible repeat (first | refine blk_drewN ?_ _ | refine blk_drew ?_ | refine blk_alloc ?_ _)); exact ac.out)) : aj ≠ af)); clear ac; clear HB; have ac := n0_; have HB := n1_; have ad := n2_; have GW474 := n3_; have ai := n4_; have NB473_474 := n5_; have NB474_473 := n6_; clear n0_ n1_ n2_ n3_ n4_ n5_ n6_; clear hb hbox hg))
 (try simp only [Act.put, List.setIfInBounds_toArray, List.set_cons_zero, List.set_cons_succ])
 go_cut [18] (fun v18 wc => ∃ (kq : Nat) (x18_2 : Bool), v18 = .bool x18_2 ∧ Aside0 (whirligiglaw09_AttrOwn.j0 kq x18_2 ax ay az au av ba aw bk bl bm bi bj bn bh = some r) ∧ Aside0 (kq ≤ k) ∧ Aside0 (wc.heap[af]? = some (.cells #[.int .i64 ax, .int .i64 ay, .int .i64 az, (.slice bb au.length bc), (.slice bd av.length be), .int .i64 ba, (.slice bf aw.length bg)] 30 (0, 0))) ∧ Aside0 (wc.heap[aj]? = some (.cells #[.int .i64 bk, .int .i64 bl, .int .i64 bm, (.slice bu bi.length bv), (.slice bw bj.length bx), .bool bn, (.slice b4 bh.length bz)] 37 (0, 0))) ∧ Aside0 (Below w.heap.size w wc))
 case first =>
  have H := HC3.out
  clear HC3
  replace H := Option.bind_eq_some_iff.mp H
  obtain ⟨t475, A60, H⟩ := H
  (try dsimp only at H)
  have A6 := Aside0.mk A60
  clear A60
  by_cases c7 : t475 = true
  ·subst c7
   have H1 := H
   rw [if_pos rfl] at H1
   clear H
   have H := H1
   clear H1
   replace H := Option.bind_eq_some_iff.mp H
   obtain ⟨t476, A80, H⟩ := H
   (try dsimp only at H)
   have A8 := Aside0.mk A80
   clear A80
   have H' := Aside0.mk H
   clear H
   have hnb9 := NB473_474.out
   have hnc9 := NB474_473.out
   have hcz10_0 : w5.cell? ⟨af, 0, none⟩ = some (.int .i64 ax) := (blk_cell ac.out 0).trans rfl
   have hcz10_1 : w5.cell? ⟨af, 1, none⟩ = some (.int .i64 ay) := (blk_cell ac.out 1).trans rfl
   have hcz10_2 : w5.cell? ⟨af, 2, none⟩ = some (.int .i64 az) := (blk_cell ac.out 2).trans rfl
   have hcz10_3 : w5.cell? ⟨af, 3, none⟩ = some (.slice bb au.length bc) := (blk_cell ac.out 3).trans rfl
   have hcz10_4 : w5.cell? ⟨af, 4, none⟩ = some (.slice bd av.length be) := (blk_cell ac.out 4).trans rfl
   have hcz10_5 : w5.cell? ⟨af, 5, none⟩ = some (.int .i64 ba) := (blk_cell ac.out 5).trans rfl
   have hcz10_6 : w5.cell? ⟨af, 6, none⟩ = some (.slice bf aw.length bg) := (blk_cell ac.out 6).trans rfl
   have hfz10_0 := blk_frozen ac.out 0
   have hfz10_1 := blk_frozen ac.out 1
   have hfz10_2 := blk_frozen ac.out 2
   have hfz10_3 := blk_frozen ac.out 3
   have hfz10_4 := blk_frozen ac.out 4
   have hfz10_5 := blk_frozen ac.out 5
   have hfz10_6 := blk_frozen ac.out 6
   go_wp2_with (first | ((with_reducible refine gate_callee (f := 11) rfl ?_); refine goesL_ (some 12) rfl rfl Try.func11 (by kernel_rfl) rfl #[.agg #[.int .i64 ax, .int .i64 ay, .int .i64 az, .slice bb au.length bc, .slice bd av.length be, .int .i64 ba, .slice bf aw.length bg]] rfl (by (try simp only [List.map_toArray, List.map_cons, List.map_nil]); first | done | rfl) ?_; (with_reducible refine (whirligigref09_Few.calls ax ay az _ _ au _ _ av ba _ _ aw true _ ?side1 ?side2 ?side3 ?side4 ?side5 ?side6 A6.out).mono ?_); (case side1 | side3 | side5 => repeat (first | exact (Kd.C_below db.out HB.out) | exact (Kd.C_below dd.out HB.out) | exact (Kd.C_below df.out HB.out) | (with_reducible refine Kd.C_alloc ?_ _) | (with_reducible refine Kd.C_drewN ?_ _) | (with_reducible refine Kd.C_drew ?_))); (case side2 | side4 | side6 => first | exact dc.out | exact de.out | exact dg.out); rintro e w11 ⟨rfl, hb⟩; refine ⟨_, rfl, ?_⟩; replace ac := Aside0.mk (ka4b4.q ac.out hb rfl); replace ad := Aside0.mk (ka4b4.q ad.out hb rfl); replace HB := Aside0.mk (below_step (by repeat (first | (with_reducible first | exact HB.out | apply below_alloc | apply pw_below_drewN | apply below_drew1 | refine below_set ?_ ah.out | refine below_set ?_ ai.out) | exact HB.out)) hb); (try clear hb); (try clear dw); (try clear hk); (try clear hi); have hcz12_0 : w11.cell? ⟨aj, 0, none⟩ = some (.int .i64 bk) := (blk_cell ad.out 0).trans rfl; have hcz12_1 : w11.cell? ⟨aj, 1, none⟩ = some (.int .i64 bl) := (blk_cell ad.out 1).trans rfl; have hcz12_2 : w11.cell? ⟨aj, 2, none⟩ = some (.int .i64 bm) := (blk_cell ad.out 2).trans rfl; have hcz12_3 : w11.cell? ⟨aj, 3, none⟩ = some (.slice bu bi.length bv) := (blk_cell ad.out 3).trans rfl; have hcz12_4 : w11.cell? ⟨aj, 4, none⟩ = some (.slice bw bj.length bx) := (blk_cell ad.out 4).trans rfl; have hcz12_5 : w11.cell? ⟨aj, 5, none⟩ = some (.bool bn) := (blk_cell ad.out 5).trans rfl; have hcz12_6 : w11.cell? ⟨aj, 6, none⟩ = some (.slice b4 bh.length bz) := (blk_cell ad.out 6).trans rfl; have hfz12_0 := blk_frozen ad.out 0; have hfz12_1 := blk_frozen ad.out 1; have hfz12_2 := blk_frozen ad.out 2; have hfz12_3 := blk_frozen ad.out 3; have hfz12_4 := blk_frozen ad.out 4; have hfz12_5 := blk_frozen ad.out 5; have hfz12_6 := blk_frozen ad.out 6) | (go_at_call 20; (with_reducible refine (whirligigref09_FewSet.calls bk bl bm _ _ bi _ _ bj bn _ _ bh t476 _ ?side1 ?side2 ?side3 ?side4 ?side5 ?side6 A8.out).mono ?_); (case side1 | side3 | side5 => repeat (first | exact (Kd.C_below HR1_3.out HB.out) | exact (Kd.C_below HR1_4.out HB.out) | exact (Kd.C_below HR1_6.out HB.out) | (with_reducible refine Kd.C_alloc ?_ _) | (with_reducible refine Kd.C_drewN ?_ _) | (with_reducible refine Kd.C_drew ?_))); (case side2 | side4 | side6 => first | exact HC1_3.out | exact HC1_4.out | exact HC1_6.out); rintro e w13 ⟨rfl, hb⟩; replace ac := Aside0.mk (ka4b4.q ac.out hb rfl); replace ad := Aside0.mk (ka4b4.q ad.out hb rfl); replace HB := Aside0.mk (below_step (by repeat (first | (with_reducible first | exact HB.out | apply below_alloc | apply pw_below_drewN | apply below_drew1 | refine below_set ?_ ah.out | refine below_set ?_ ai.out) | exact HB.out)) hb); (try clear hb); (try clear dw); (try clear hk); (try clear hi)))
   go_meet
   case rel => exact ⟨_, (!t476), (by first | rfl | (simp; done) | (simp [*]; done)), H', ⟨by first | omega | exact Nat.le_refl _⟩, ⟨by (with_reducible repeat (first | refine blk_drewN ?_ _ | refine blk_drew ?_ | refine blk_alloc ?_ _)); exact ac.out⟩, ⟨by (with_reducible repeat (first | refine blk_drewN ?_ _ | refine blk_drew ?_ | refine blk_alloc ?_ _)); exact ad.out⟩, ⟨by repeat (first | (with_reducible first | exact HB.out | apply below_alloc | apply pw_below_drewN | apply below_drew1 | refine below_set ?_ ah.out | refine below_set ?_ ai.out) | exact HB.out)⟩⟩
  ·replace c7 := Bool.eq_false_iff.mpr c7
   subst c7
   have H1 : (whirligiglaw09_AttrOwn.j0 k true ax ay az au av ba aw bk bl bm bi bj bn bh) = some r := by rw [if_neg (show ¬ (false = true) by decide)] at H; exact H
   clear H
   have H := H1
   clear H1
   have H' := Aside0.mk H
   clear H
   have hnb14 := NB473_474.out
   have hnc14 := NB474_473.out
   have hcz15_0 : w5.cell? ⟨af, 0, none⟩ = some (.int .i64 ax) := (blk_cell ac.out 0).trans rfl
   have hcz15_1 : w5.cell? ⟨af, 1, none⟩ = some (.int .i64 ay) := (blk_cell ac.out 1).trans rfl
   have hcz15_2 : w5.cell? ⟨af, 2, none⟩ = some (.int .i64 az) := (blk_cell ac.out 2).trans rfl
   have hcz15_3 : w5.cell? ⟨af, 3, none⟩ = some (.slice bb au.length bc) := (blk_cell ac.out 3).trans rfl
   have hcz15_4 : w5.cell? ⟨af, 4, none⟩ = some (.slice bd av.length be) := (blk_cell ac.out 4).trans rfl
   have hcz15_5 : w5.cell? ⟨af, 5, none⟩ = some (.int .i64 ba) := (blk_cell ac.out 5).trans rfl
   have hcz15_6 : w5.cell? ⟨af, 6, none⟩ = some (.slice bf aw.length bg) := (blk_cell ac.out 6).trans rfl
   have hfz15_0 := blk_frozen ac.out 0
   have hfz15_1 := blk_frozen ac.out 1
   have hfz15_2 := blk_frozen ac.out 2
   have hfz15_3 := blk_frozen ac.out 3
   have hfz15_4 := blk_frozen ac.out 4
   have hfz15_5 := blk_frozen ac.out 5
   have hfz15_6 := blk_frozen ac.out 6
   go_wp2_with (first | ((with_reducible refine gate_callee (f := 11) rfl ?_); refine goesL_ (some 12) rfl rfl Try.func11 (by kernel_rfl) rfl #[.agg #[.int .i64 ax, .int .i64 ay, .int .i64 az, .slice bb au.length bc, .slice bd av.length be, .int .i64 ba, .slice bf aw.length bg]] rfl (by (try simp only [List.map_toArray, List.map_cons, List.map_nil]); first | done | rfl) ?_; (with_reducible refine (whirligigref09_Few.calls ax ay az _ _ au _ _ av ba _ _ aw false _ ?side1 ?side2 ?side3 ?side4 ?side5 ?side6 A6.out).mono ?_); (case side1 | side3 | side5 => repeat (first | exact (Kd.C_below db.out HB.out) | exact (Kd.C_below dd.out HB.out) | exact (Kd.C_below df.out HB.out) | (with_reducible refine Kd.C_alloc ?_ _) | (with_reducible refine Kd.C_drewN ?_ _) | (with_reducible refine Kd.C_drew ?_))); (case side2 | side4 | side6 => first | exact dc.out | exact de.out | exact dg.out); rintro e w16 ⟨rfl, hb⟩; refine ⟨_, rfl, ?_⟩; replace ac := Aside0.mk (ka4b4.q ac.out hb rfl); replace ad := Aside0.mk (ka4b4.q ad.out hb rfl); replace HB := Aside0.mk (below_step (by repeat (first | (with_reducible first | exact HB.out | apply below_alloc | apply pw_below_drewN | apply below_drew1 | refine below_set ?_ ah.out | refine below_set ?_ ai.out) | exact HB.out)) hb); (try clear hb); (try clear dw); (try clear hk); (try clear hi)))
   go_meet
   case rel => exact ⟨_, (true), (by first | rfl | (simp; done) | (simp [*]; done)), H', ⟨by first | omega | exact Nat.le_refl _⟩, ⟨by (with_reducible repeat (first | refine blk_drewN ?_ _ | refine blk_drew ?_ | refine blk_alloc ?_ _)); exact ac.out⟩, ⟨by (with_reducible repeat (first | refine blk_drewN ?_ _ | refine blk_drew ?_ | refine blk_alloc ?_ _)); exact ad.out⟩, ⟨by repeat (first | (with_reducible first | exact HB.out | apply below_alloc | apply pw_below_drewN | apply below_drew1 | refine below_set ?_ ah.out | refine below_set ?_ ai.out) | exact HB.out)⟩⟩
 case rest =>
  clear HC3
  try clear c1
  try clear p2
  try clear c7
  try clear c9
  try clear c11
  try clear c14
  try clear hcz10_0
  try clear hcz10_1
  try clear hcz10_2
  try clear hcz10_3
  try clear hcz10_4
  try clear hcz10_5
  try clear hcz10_6
  try clear hcz12_0
  try clear hcz12_1
  try clear hcz12_2
  try clear hcz12_3
  try clear hcz12_4
  try clear hcz12_5
  try clear hcz12_6
  try clear hcz15_0
  try clear hcz15_1
  try clear hcz15_2
  try clear hcz15_3
  try clear hcz15_4
  try clear hcz15_5
  try clear hcz15_6
  try clear hfz10_0
  try clear hfz10_1
  try clear hfz10_2
  try clear hfz10_3
  try clear hfz10_4
  try clear hfz10_5
  try clear hfz10_6
  try clear hfz12_0
  try clear hfz12_1
  try clear hfz12_2
  try clear hfz12_3
  try clear hfz12_4
  try clear hfz12_5
  try clear hfz12_6
  try clear hfz15_0
  try clear hfz15_1
  try clear hfz15_2
  try clear hfz15_3
  try clear hfz15_4
  try clear hfz15_5
  try clear hfz15_6
  obtain ⟨kq, x18_2, rfl, HA, HJ2, ac, ad, HB⟩ := hcut
  cases kq with
  | zero => exact absurd HA.out (by simp [whirligiglaw09_AttrOwn.j0])
  | succ dx =>
   have H := HA.out
   clear HA
   simp only [whirligiglaw09_AttrOwn.j0] at H
   by_cases c17 : x18_2 = true
   ·subst c17
    have H1 : ((whirligiglaw09_lives.f dx).bind fun t477 => (some t477)) = some r := by rw [if_pos rfl] at H; exact H
    clear H
    have H := H1
    clear H1
    replace H := Option.bind_eq_some_iff.mp H
    obtain ⟨t477, A180, H⟩ := H
    replace H : (some t477) = some r := H
    have A18 := Aside0.mk A180
    clear A180
    obtain rfl := Option.some.inj H
    go_wp2_with (first | ((with_reducible refine gate_callee (f := 10) rfl ?_); refine goesL_ (some 19) rfl rfl Try.func10 (by kernel_rfl) rfl #[] rfl (by (try simp only [List.map_toArray, List.map_cons, List.map_nil]); first | done | rfl) ?_; (with_reducible refine (whirligiglaw09_lives.calls dx  t477 _ A18.out).mono ?_); rintro e w19 ⟨rfl, hb⟩; refine ⟨_, rfl, ?_⟩; replace ac := Aside0.mk (ka4b4.q ac.out hb rfl); replace ad := Aside0.mk (ka4b4.q ad.out hb rfl); replace HB := Aside0.mk (below_step (by repeat (first | (with_reducible first | exact HB.out | apply below_alloc | apply pw_below_drewN | apply below_drew1 | refine below_set ?_ ah.out | refine below_set ?_ ai.out) | exact HB.out)) hb); (try clear hb); (try clear dw); (try clear hk); (try clear hi)))
    go_ret
    exact ⟨by first | rfl | (simp [errW_none, errW_some] <;> rfl) | (simp [*, errW_none, errW_some] <;> rfl), by repeat (first | (with_reducible first | exact HB.out | apply below_alloc | apply pw_below_drewN | apply below_drew1 | refine below_set ?_ ah.out | refine below_set ?_ ai.out) | exact HB.out)⟩
   ·replace c17 := Bool.eq_false_iff.mpr c17
    subst c17
    have H1 := H
    rw [if_neg (show ¬ (false = true) by decide)] at H1
    clear H
    have H := H1
    clear H1
    replace H := Option.bind_eq_some_iff.mp H
    obtain ⟨t478, A200, H⟩ := H
    (try dsimp only at H)
    have A20 := Aside0.mk A200
    clear A200
    replace H := Option.bind_eq_some_iff.mp H
    obtain ⟨⟨t479, t480, t481, t482, t485, t488, t489⟩, A210, H⟩ := H
    (try dsimp only at H)
    have A21 := Aside0.mk A210
    clear A210
    replace H := Option.bind_eq_some_iff.mp H
    obtain ⟨t493, A220, H⟩ := H
    (try dsimp only at H)
    have A22 := Aside0.mk A220
    clear A220
    by_cases c23 : t493 = true
    ·subst c23
     have H1 := H
     rw [if_pos rfl] at H1
     clear H
     have H := H1
     clear H1
     by_cases c24 : ([] : List Int).length + bh.length < 17592186044416
     ·rw [if_pos c24] at H
      have LMc24 := Aside0.mk c24
      clear c24
      obtain ⟨dp, hy494⟩ : ∃ y_ : List Int, y_ = (([] : List Int) ++ bh) := ⟨_, rfl⟩
      replace H : ((attr_Do.f dx ax ay az au av ba aw bk bl bm bi bj bn bh).bind fun bt497 => ((whirligiglaw09_spoil.f dx t479 t480 t481 t482 t485 t488 t489).bind fun bt512 => ((whirligiglaw09_spoil.f dx bt497.1 bt497.2.1 bt497.2.2.1 bt497.2.2.2.1 bt497.2.2.2.2.1 bt497.2.2.2.2.2.1 bt497.2.2.2.2.2.2.1).bind fun bt515 => (whirligiglaw09_AttrOwn.l0 dx t478 dp 0 ax ay az au av ba aw bk bl bm bi bj bn bh)))) = some r := by first | (rw [hy494]; with_reducible exact H) | (have H2_ := (Option.bind_some _ _).symm.trans H; rw [hy494]; with_reducible exact H2_) | (have H2_ := (Option.bind_some _ _).symm.trans H; with_reducible exact H2_) | with_reducible exact H | (rw [hy494]; exact H) | exact H
      have Ny494 := Aside0.mk hy494
      clear hy494
      replace H := Option.bind_eq_some_iff.mp H
      obtain ⟨⟨t497, t498, t499, t500, t503, t506, t507, t510⟩, A250, H⟩ := H
      (try dsimp only at H)
      have A25 := Aside0.mk A250
      clear A250
      replace H := Option.bind_eq_some_iff.mp H
      obtain ⟨⟨t512, t513, t514⟩, A260, H⟩ := H
      (try dsimp only at H)
      have A26 := Aside0.mk A260
      clear A260
      replace H := Option.bind_eq_some_iff.mp H
      obtain ⟨⟨t515, t516, t517⟩, A270, H⟩ := H
      (try dsimp only at H)
      have A27 := Aside0.mk A270
      clear A270
      have H' := Aside0.mk H
      clear H
      try go_wp2
      replace ac := Aside0.mk (blk_drew ac.out)
      replace ad := Aside0.mk (blk_drew ad.out)
      replace HB := Aside0.mk (below_drew1 HB.out)
      refine start_ (n := 7) (S := ka4b4.S0 af (.int .i64 ax) (.int .i64 ay) (.int .i64 az) (.slice bb au.length bc) (.slice bd av.length be) (.int .i64 ba) (.slice bf aw.length bg)) (ds := []) #[false, false, false, false, false, false, false] (by kernel_rfl) rfl rfl (ka4b4.b7e ac.out) (fun hHeld => ?_)
      generalize wc.drew = w28 at ac ad HB hHeld ⊢
      refine take_ (i := 0) (N := some 20) (v := ?_) (a' := ?_) #[true, false, false, false, false, false, false] rfl rfl (by kernel_rfl) (fun _ _ _ h => h) (Or.inl ⟨by rfl, ?_⟩) hHeld ?_ ?_
      rotate_left
      ·rintro w' ⟨s0, s1, s2, s3, s4, s5, s6⟩
       go_simp
       with_reducible rfl
      rotate_left
      ·simp only [Act.put, List.setIfInBounds_toArray, List.set_cons_zero, List.set_cons_succ, i64_w, i32_w]
       rfl
      refine take_ (i := 2) (N := some 22) (v := ?_) (a' := ?_) #[true, false, true, false, false, false, false] rfl rfl (by kernel_rfl) (fun _ _ _ h => h) (Or.inl ⟨by rfl, ?_⟩) hHeld ?_ ?_
      rotate_left
      ·rintro w' ⟨s0, s1, s2, s3, s4, s5, s6⟩
       go_simp
       with_reducible rfl
      rotate_left
      ·simp only [Act.put, List.setIfInBounds_toArray, List.set_cons_zero, List.set_cons_succ, i64_w, i32_w]
       rfl
      refine join_ (σ := Value × Value × Value × Nat) 2 #[true, true, true, true, true, false, false] (fun s_ => [(21, .string t478), (23, .agg #[.int .i64 t479, .int .i64 t480, .int .i64 t481, s_.1, s_.2.1, .int .i64 t488, s_.2.2.1]), (6, .pointer (some ⟨s_.2.2.2, 0, none⟩))]) (fun s_ w' => (w'.cell? ⟨af, 0, none⟩ = some (.int .i64 ax) ∧ w'.cell? ⟨af, 1, none⟩ = some (.int .i64 ay) ∧ w'.cell? ⟨af, 2, none⟩ = some (.int .i64 az) ∧ w'.cell? ⟨af, 3, none⟩ = some (.slice bb au.length bc) ∧ w'.cell? ⟨af, 4, none⟩ = some (.slice bd av.length be) ∧ w'.cell? ⟨af, 5, none⟩ = some (.int .i64 ba) ∧ w'.cell? ⟨af, 6, none⟩ = some (.slice bf aw.length bg)) ∧ (Kd.R (Kd.int .i64) 3 w' w.heap.size (fun k_ => some k_ ≠ (s_.2.2.1 : Value).ownBlock) s_.1 t482) ∧ (Kd.R k63 63 w' w.heap.size (fun _ => True) s_.2.1 t485) ∧ (Kd.R (Kd.int .i64) 3 w' w.heap.size (fun k_ => some k_ ≠ (s_.1 : Value).ownBlock) s_.2.2.1 t489) ∧ (w'.heap[af]? = some (.cells #[.int .i64 ax, .int .i64 ay, .int .i64 az, .slice bb au.length bc, .slice bd av.length be, .int .i64 ba, .slice bf aw.length bg] 30 (0, 0))) ∧ (w'.heap[aj]? = some (.cells #[.int .i64 bk, .int .i64 bl, .int .i64 bm, .slice bu bi.length bv, .slice bw bj.length bx, .bool bn, .slice b4 bh.length bz] 37 (0, 0))) ∧ (w'.heap[s_.2.2.2]? = some (.cells #[.int .i64 0, .int .i64 0, .int .i64 0, .slice none 0 0, .slice none 0 0, .int .i64 0, .slice none 0 0] 30 (0, 0))) ∧ (w.heap.size ≤ s_.2.2.2) ∧ (w.heap.size ≤ s_.2.2.2) ∧ (af ≠ s_.2.2.2) ∧ (s_.2.2.2 ≠ af) ∧ (aj ≠ s_.2.2.2) ∧ (s_.2.2.2 ≠ aj) ∧ (Below w.heap.size w w')) ?_ ?_
      rotate_left
      ·intro hCont
       refine two_ (i := 1) (j := 4) (Ni := some 21) (Nj := some 6) #[true, true, true, false, false, false, false] #[true, false, true, false, true, false, false] rfl rfl rfl rfl (by kernel_rfl) (by decide) (by decide) (fun K hK => ?_) (fun K hK => ?_)
       ·skip
        refine goes_ Try.func14 (by kernel_rfl) rfl #[.agg #[.int .i64 ax, .int .i64 ay, .int .i64 az, .slice bb au.length bc, .slice bd av.length be, .int .i64 ba, .slice bf aw.length bg]] (by rfl) rfl rfl (by (try simp only [List.map_toArray, List.map_cons, List.map_nil]); first | done | rfl) ?_
        with_reducible refine (attr_Text.calls dx ax ay az _ _ au _ _ av ba _ _ aw t478 _ ?side1 ?side2 ?side3 ?side4 ?side5 ?side6 A20.out).mono ?_
        (case side1 | side3 | side5 => repeat (first | exact (Kd.C_below db.out HB.out) | exact (Kd.C_below dd.out HB.out) | exact (Kd.C_below df.out HB.out) | (with_reducible refine Kd.C_alloc ?_ _) | (with_reducible refine Kd.C_drewN ?_ _) | (with_reducible refine Kd.C_drew ?_)))
        (case side2 | side4 | side6 => first | exact dc.out | exact de.out | exact dg.out)
        rintro e w29 ⟨rfl, hb⟩
        refine ⟨_, rfl, ?_⟩
        replace ac := Aside0.mk (ka4b4.q ac.out hb rfl)
        replace ad := Aside0.mk (ka4b4.q ad.out hb rfl)
        replace HB := Aside0.mk (below_step (by repeat (first | (with_reducible first | exact HB.out | apply below_alloc | apply pw_below_drewN | apply below_drew1 | refine below_set ?_ ah.out | refine below_set ?_ ai.out) | exact HB.out)) hb)
        (try clear hb)
        (try clear dw)
        (try clear hk)
        (try clear hi)
        refine hK.out _ _ (ka4b4.b7e ac.out) (fun hHeld => ?_)
        clear hK K
        refine norm_ (a' := ?_) ?_ ?_
        rotate_left
        ·show Act.put _ (some 21) _ = _
         simp only [Act.put, List.setIfInBounds_toArray, List.set_cons_zero, List.set_cons_succ, i64_w, i32_w]
         rfl
        refine two_ (i := 3) (j := 4) (Ni := some 23) (Nj := some 6) #[true, true, true, true, false, false, false] #[true, true, true, false, true, false, false] rfl rfl rfl rfl (by kernel_rfl) (by decide) (by decide) (fun K hK => ?_) (fun K hK => ?_)
        ·skip
         refine goes_ Try.func25 (by kernel_rfl) rfl #[.agg #[.int .i64 ax, .int .i64 ay, .int .i64 az, .slice bb au.length bc, .slice bd av.length be, .int .i64 ba, .slice bf aw.length bg]] (by rfl) rfl rfl (by (try simp only [List.map_toArray, List.map_cons, List.map_nil]); first | done | rfl) ?_
         with_reducible refine (attr_Copy.calls ax ay az _ _ au _ _ av ba _ _ aw t479 t480 t481 t482 t485 t488 t489 _ ?side1 ?side2 ?side3 ?side4 ?side5 ?side6 A21.out).mono ?_
         (case side1 | side3 | side5 => repeat (first | exact (Kd.C_below db.out HB.out) | exact (Kd.C_below dd.out HB.out) | exact (Kd.C_below df.out HB.out) | (with_reducible refine Kd.C_alloc ?_ _) | (with_reducible refine Kd.C_drewN ?_ _) | (with_reducible refine Kd.C_drew ?_)))
         (case side2 | side4 | side6 => first | exact dc.out | exact de.out | exact dg.out)
         rintro e w30 ⟨v483, v486, v490, rfl, ho0, ho1, ho2, hb⟩
         refine ⟨_, rfl, ?_⟩
         have ap := Aside0.mk (Kd.R_lower ho0 (below_size (by repeat (first | (with_reducible first | exact HB.out | apply below_alloc | apply pw_below_drewN | apply below_drew1 | refine below_set ?_ ah.out | refine below_set ?_ ai.out) | exact HB.out))))
         have ar := Aside0.mk (Kd.R_lower ho1 (below_size (by repeat (first | (with_reducible first | exact HB.out | apply below_alloc | apply pw_below_drewN | apply below_drew1 | refine below_set ?_ ah.out | refine below_set ?_ ai.out) | exact HB.out))))
         have aq := Aside0.mk (Kd.R_lower ho2 (below_size (by repeat (first | (with_reducible first | exact HB.out | apply below_alloc | apply pw_below_drewN | apply below_drew1 | refine below_set ?_ ah.out | refine below_set ?_ ai.out) | exact HB.out))))
         replace ac := Aside0.mk (ka4b4.q ac.out hb rfl)
         replace ad := Aside0.mk (ka4b4.q ad.out hb rfl)
         replace HB := Aside0.mk (below_step (by repeat (first | (with_reducible first | exact HB.out | apply below_alloc | apply pw_below_drewN | apply below_drew1 | refine below_set ?_ ah.out | refine below_set ?_ ai.out) | exact HB.out)) hb)
         (try clear hb)
         (try clear dw)
         (try clear hk)
         (try clear hi)
         (try clear ho0)
         (try clear ho1)
         (try clear ho2)
         refine hK.out _ _ (ka4b4.b7e ac.out) (fun hHeld => ?_)
         clear hK K
         refine norm_ (a' := ?_) ?_ ?_
         rotate_left
         ·show Act.put _ (some 23) _ = _
          simp only [Act.put, List.setIfInBounds_toArray, List.set_cons_zero, List.set_cons_succ, i64_w, i32_w]
          rfl
         refine one_ (i := 4) (N := some 6) #[true, true, true, true, true, false, false] rfl rfl (by kernel_rfl) (by decide) (fun K hK => ?_)
         refine box_step ?hg (N := 6) ?hd (cs := #[.int .i64 0, .int .i64 0, .int .i64 0, .slice none 0 0, .slice none 0 0, .int .i64 0, .slice none 0 0]) (t := 30) ?hr ?_; (case hd => rfl); (case hg => rfl); (case hr => first | (go_simp; done) | (go_simp; rfl))
         intro ab hg w31 hbox hb
         have n0_ := Aside0.mk (Kd.R_below (by (with_reducible repeat (first | apply Kd.R_alloc | apply Kd.R_drewN | apply Kd.R_drew)); exact ap.out) hb)
         have n1_ := Aside0.mk (Kd.R_below (by (with_reducible repeat (first | apply Kd.R_alloc | apply Kd.R_drewN | apply Kd.R_drew)); exact ar.out) hb)
         have n2_ := Aside0.mk (Kd.R_below (by (with_reducible repeat (first | apply Kd.R_alloc | apply Kd.R_drewN | apply Kd.R_drew)); exact aq.out) hb)
         have n3_ := Aside0.mk (ka4b4.q ac.out hb rfl)
         have n4_ := Aside0.mk (ka4b4.q ad.out hb rfl)
         have n5_ := Aside0.mk (below_step (by repeat (first | (with_reducible first | exact HB.out | apply below_alloc | apply pw_below_drewN | apply below_drew1 | refine below_set ?_ ah.out | refine below_set ?_ ai.out) | exact HB.out)) hb)
         have n6_ := Aside0.mk (hbox)
         have n7_ := Aside0.mk ((by rw [hg]; exact (below_size (by repeat (first | (with_reducible first | exact HB.out | apply below_alloc | apply pw_below_drewN | apply below_drew1 | refine below_set ?_ ah.out | refine below_set ?_ ai.out) | exact HB.out))) : w.heap.size ≤ ab))
         have n8_ := Aside0.mk ((by rw [hg]; exact (below_size (by repeat (first | (with_reducible first | exact HB.out | apply below_alloc | apply pw_below_drewN | apply below_drew1 | refine below_set ?_ ah.out | refine below_set ?_ ai.out) | exact HB.out))) : w.heap.size ≤ ab))
         have n9_ := Aside0.mk ((by rw [hg]; exact Nat.ne_of_lt (blk_lt (g := af) (o := .cells #[.int .i64 ax, .int .i64 ay, .int .i64 az, .slice bb au.length bc, .slice bd av.length be, .int .i64 ba, .slice bf aw.length bg] 30 (0, 0)) (by (with_reducible repeat (first | refine blk_drewN ?_ _ | refine blk_drew ?_ | refine blk_alloc ?_ _)); exact ac.out)) : af ≠ ab))
         have n10_ := Aside0.mk ((by rw [hg]; exact Nat.ne_of_gt (blk_lt (g := af) (o := .cells #[.int .i64 ax, .int .i64 ay, .int .i64 az, .slice bb au.length bc, .slice bd av.length be, .int .i64 ba, .slice bf aw.length bg] 30 (0, 0)) (by (with_reducible repeat (first | refine blk_drewN ?_ _ | refine blk_drew ?_ | refine blk_alloc ?_ _)); exact ac.out)) : ab ≠ af))
         have n11_ := Aside0.mk ((by rw [hg]; exact Nat.ne_of_lt (blk_lt (g := aj) (o := .cells #[.int .i64 bk, .int .i64 bl, .int .i64 bm, .slice bu bi.length bv, .slice bw bj.length bx, .bool bn, .slice b4 bh.length bz] 37 (0, 0)) (by (with_reducible repeat (first | refine blk_drewN ?_ _ | refine blk_drew ?_ | refine blk_alloc ?_ _)); exact ad.out)) : aj ≠ ab))
         have n12_ := Aside0.mk ((by rw [hg]; exact Nat.ne_of_gt (blk_lt (g := aj) (o := .cells #[.int .i64 bk, .int .i64 bl, .int .i64 bm, .slice bu bi.length bv, .slice bw bj.length bx, .bool bn, .slice b4 bh.length bz] 37 (0, 0)) (by (with_reducible repeat (first | refine blk_drewN ?_ _ | refine blk_drew ?_ | refine blk_alloc ?_ _)); exact ad.out)) : ab ≠ aj))
         clear ap
         clear ar
         clear aq
         clear ac
         clear ad
         clear HB
         have ap := n0_
         have ar := n1_
         have aq := n2_
         have ac := n3_
         have ad := n4_
         have HB := n5_
         have ae := n6_
         have dl := n7_
         have ao := n8_
         have aa := n9_
         have al := n10_
         have ag := n11_
         have an := n12_
         clear n0_ n1_ n2_ n3_ n4_ n5_ n6_ n7_ n8_ n9_ n10_ n11_ n12_
         clear hb hbox hg
         refine hK.out _ _ (ka4b4.b7e ac.out) (fun hHeld => ?_)
         clear hK K
         refine norm_ (a' := ?_) ?_ ?_
         rotate_left
         ·show Act.put _ (some 6) _ = _
          simp only [Act.put, List.setIfInBounds_toArray, List.set_cons_zero, List.set_cons_succ, i64_w, i32_w]
          rfl
         exact norm_ (by simp only [putAll, Act.put, List.setIfInBounds_toArray, List.set_cons_zero, List.set_cons_succ]) (hCont (v483, v486, v490, ab) _ ⟨hHeld, (by (with_reducible repeat (first | apply Kd.R_alloc | apply Kd.R_drewN | apply Kd.R_drew)); exact ap.out), (by (with_reducible repeat (first | apply Kd.R_alloc | apply Kd.R_drewN | apply Kd.R_drew)); exact ar.out), (by (with_reducible repeat (first | apply Kd.R_alloc | apply Kd.R_drewN | apply Kd.R_drew)); exact aq.out), (by (with_reducible repeat (first | refine blk_drewN ?_ _ | refine blk_drew ?_ | refine blk_alloc ?_ _)); exact ac.out), (by (with_reducible repeat (first | refine blk_drewN ?_ _ | refine blk_drew ?_ | refine blk_alloc ?_ _)); exact ad.out), (by (with_reducible repeat (first | refine blk_drewN ?_ _ | refine blk_drew ?_ | refine blk_alloc ?_ _)); exact ae.out), dl.out, ao.out, aa.out, al.out, ag.out, an.out, (by repeat (first | (with_reducible first | exact HB.out | apply below_alloc | apply pw_below_drewN | apply below_drew1 | refine below_set ?_ ah.out | refine below_set ?_ ai.out | refine below_set ?_ ao.out) | exact HB.out))⟩)
        ·skip
         refine box_step ?hg (N := 6) ?hd (cs := #[.int .i64 0, .int .i64 0, .int .i64 0, .slice none 0 0, .slice none 0 0, .int .i64 0, .slice none 0 0]) (t := 30) ?hr ?_; (case hd => rfl); (case hg => rfl); (case hr => first | (go_simp; done) | (go_simp; rfl))
         intro ab hg w30 hbox hb
         have n0_ := Aside0.mk (ka4b4.q ac.out hb rfl)
         have n1_ := Aside0.mk (ka4b4.q ad.out hb rfl)
         have n2_ := Aside0.mk (below_step (by repeat (first | (with_reducible first | exact HB.out | apply below_alloc | apply pw_below_drewN | apply below_drew1 | refine below_set ?_ ah.out | refine below_set ?_ ai.out) | exact HB.out)) hb)
         have n3_ := Aside0.mk (hbox)
         have n4_ := Aside0.mk ((by rw [hg]; exact (below_size (by repeat (first | (with_reducible first | exact HB.out | apply below_alloc | apply pw_below_drewN | apply below_drew1 | refine below_set ?_ ah.out | refine below_set ?_ ai.out) | exact HB.out))) : w.heap.size ≤ ab))
         have n5_ := Aside0.mk ((by rw [hg]; exact (below_size (by repeat (first | (with_reducible first | exact HB.out | apply below_alloc | apply pw_below_drewN | apply below_drew1 | refine below_set ?_ ah.out | refine below_set ?_ ai.out) | exact HB.out))) : w.heap.size ≤ ab))
         have n6_ := Aside0.mk ((by rw [hg]; exact Nat.ne_of_lt (blk_lt (g := af) (o := .cells #[.int .i64 ax, .int .i64 ay, .int .i64 az, .slice bb au.length bc, .slice bd av.length be, .int .i64 ba, .slice bf aw.length bg] 30 (0, 0)) (by (with_reducible repeat (first | refine blk_drewN ?_ _ | refine blk_drew ?_ | refine blk_alloc ?_ _)); exact ac.out)) : af ≠ ab))
         have n7_ := Aside0.mk ((by rw [hg]; exact Nat.ne_of_gt (blk_lt (g := af) (o := .cells #[.int .i64 ax, .int .i64 ay, .int .i64 az, .slice bb au.length bc, .slice bd av.length be, .int .i64 ba, .slice bf aw.length bg] 30 (0, 0)) (by (with_reducible repeat (first | refine blk_drewN ?_ _ | refine blk_drew ?_ | refine blk_alloc ?_ _)); exact ac.out)) : ab ≠ af))
         have n8_ := Aside0.mk ((by rw [hg]; exact Nat.ne_of_lt (blk_lt (g := aj) (o := .cells #[.int .i64 bk, .int .i64 bl, .int .i64 bm, .slice bu bi.length bv, .slice bw bj.length bx, .bool bn, .slice b4 bh.length bz] 37 (0, 0)) (by (with_reducible repeat (first | refine blk_drewN ?_ _ | refine blk_drew ?_ | refine blk_alloc ?_ _)); exact ad.out)) : aj ≠ ab))
         have n9_ := Aside0.mk ((by rw [hg]; exact Nat.ne_of_gt (blk_lt (g := aj) (o := .cells #[.int .i64 bk, .int .i64 bl, .int .i64 bm, .slice bu bi.length bv, .slice bw bj.length bx, .bool bn, .slice b4 bh.length bz] 37 (0, 0)) (by (with_reducible repeat (first | refine blk_drewN ?_ _ | refine blk_drew ?_ | refine blk_alloc ?_ _)); exact ad.out)) : ab ≠ aj))
         clear ac
         clear ad
         clear HB
         have ac := n0_
         have ad := n1_
         have HB := n2_
         have ae := n3_
         have dl := n4_
         have ao := n5_
         have aa := n6_
         have al := n7_
         have ag := n8_
         have an := n9_
         clear n0_ n1_ n2_ n3_ n4_ n5_ n6_ n7_ n8_ n9_
         clear hb hbox hg
         refine hK.out _ _ (ka4b4.b7e ac.out) (fun hHeld => ?_)
         clear hK K
         refine norm_ (a' := ?_) ?_ ?_
         rotate_left
         ·show Act.put _ (some 6) _ = _
          simp only [Act.put, List.setIfInBounds_toArray, List.set_cons_zero, List.set_cons_succ, i64_w, i32_w]
          rfl
         refine one_ (i := 3) (N := some 23) #[true, true, true, true, true, false, false] rfl rfl (by kernel_rfl) (by decide) (fun K hK => ?_)
         refine goes_ Try.func25 (by kernel_rfl) rfl #[.agg #[.int .i64 ax, .int .i64 ay, .int .i64 az, .slice bb au.length bc, .slice bd av.length be, .int .i64 ba, .slice bf aw.length bg]] (by rfl) rfl rfl (by (try simp only [List.map_toArray, List.map_cons, List.map_nil]); first | done | rfl) ?_
         with_reducible refine (attr_Copy.calls ax ay az _ _ au _ _ av ba _ _ aw t479 t480 t481 t482 t485 t488 t489 _ ?side1 ?side2 ?side3 ?side4 ?side5 ?side6 A21.out).mono ?_
         (case side1 | side3 | side5 => repeat (first | exact (Kd.C_below db.out HB.out) | exact (Kd.C_below dd.out HB.out) | exact (Kd.C_below df.out HB.out) | (with_reducible refine Kd.C_alloc ?_ _) | (with_reducible refine Kd.C_drewN ?_ _) | (with_reducible refine Kd.C_drew ?_)))
         (case side2 | side4 | side6 => first | exact dc.out | exact de.out | exact dg.out)
         rintro e w31 ⟨v483, v486, v490, rfl, ho0, ho1, ho2, hb⟩
         refine ⟨_, rfl, ?_⟩
         have ap := Aside0.mk (Kd.R_lower ho0 (below_size (by repeat (first | (with_reducible first | exact HB.out | apply below_alloc | apply pw_below_drewN | apply below_drew1 | refine below_set ?_ ah.out | refine below_set ?_ ai.out | refine below_set ?_ ao.out) | exact HB.out))))
         have ar := Aside0.mk (Kd.R_lower ho1 (below_size (by repeat (first | (with_reducible first | exact HB.out | apply below_alloc | apply pw_below_drewN | apply below_drew1 | refine below_set ?_ ah.out | refine below_set ?_ ai.out | refine below_set ?_ ao.out) | exact HB.out))))
         have aq := Aside0.mk (Kd.R_lower ho2 (below_size (by repeat (first | (with_reducible first | exact HB.out | apply below_alloc | apply pw_below_drewN | apply below_drew1 | refine below_set ?_ ah.out | refine below_set ?_ ai.out | refine below_set ?_ ao.out) | exact HB.out))))
         replace ac := Aside0.mk (ka4b4.q ac.out hb rfl)
         replace ad := Aside0.mk (ka4b4.q ad.out hb rfl)
         replace ae := Aside0.mk (ka4b4.q ae.out hb rfl)
         replace HB := Aside0.mk (below_step (by repeat (first | (with_reducible first | exact HB.out | apply below_alloc | apply pw_below_drewN | apply below_drew1 | refine below_set ?_ ah.out | refine below_set ?_ ai.out | refine below_set ?_ ao.out) | exact HB.out)) hb)
         (try clear hb)
         (try clear dw)
         (try clear hk)
         (try clear hi)
         (try clear ho0)
         (try clear ho1)
         (try clear ho2)
         refine hK.out _ _ (ka4b4.b7e ac.out) (fun hHeld => ?_)
         clear hK K
         refine norm_ (a' := ?_) ?_ ?_
         rotate_left
         ·show Act.put _ (some 23) _ = _
          simp only [Act.put, List.setIfInBounds_toArray, List.set_cons_zero, List.set_cons_succ, i64_w, i32_w]
          rfl
         exact norm_ (by simp only [putAll, Act.put, List.setIfInBounds_toArray, List.set_cons_zero, List.set_cons_succ]) (hCont (v483, v486, v490, ab) _ ⟨hHeld, (by (with_reducible repeat (first | apply Kd.R_alloc | apply Kd.R_drewN | apply Kd.R_drew)); exact ap.out), (by (with_reducible repeat (first | apply Kd.R_alloc | apply Kd.R_drewN | apply Kd.R_drew)); exact ar.out), (by (with_reducible repeat (first | apply Kd.R_alloc | apply Kd.R_drewN | apply Kd.R_drew)); exact aq.out), (by (with_reducible repeat (first | refine blk_drewN ?_ _ | refine blk_drew ?_ | refine blk_alloc ?_ _)); exact ac.out), (by (with_reducible repeat (first | refine blk_drewN ?_ _ | refine blk_drew ?_ | refine blk_alloc ?_ _)); exact ad.out), (by (with_reducible repeat (first | refine blk_drewN ?_ _ | refine blk_drew ?_ | refine blk_alloc ?_ _)); exact ae.out), dl.out, ao.out, aa.out, al.out, ag.out, an.out, (by repeat (first | (with_reducible first | exact HB.out | apply below_alloc | apply pw_below_drewN | apply below_drew1 | refine below_set ?_ ah.out | refine below_set ?_ ai.out | refine below_set ?_ ao.out) | exact HB.out))⟩)
       ·skip
        refine box_step ?hg (N := 6) ?hd (cs := #[.int .i64 0, .int .i64 0, .int .i64 0, .slice none 0 0, .slice none 0 0, .int .i64 0, .slice none 0 0]) (t := 30) ?hr ?_; (case hd => rfl); (case hg => rfl); (case hr => first | (go_simp; done) | (go_simp; rfl))
        intro ab hg w29 hbox hb
        have n0_ := Aside0.mk (ka4b4.q ac.out hb rfl)
        have n1_ := Aside0.mk (ka4b4.q ad.out hb rfl)
        have n2_ := Aside0.mk (below_step (by repeat (first | (with_reducible first | exact HB.out | apply below_alloc | apply pw_below_drewN | apply below_drew1 | refine below_set ?_ ah.out | refine below_set ?_ ai.out) | exact HB.out)) hb)
        have n3_ := Aside0.mk (hbox)
        have n4_ := Aside0.mk ((by rw [hg]; exact (below_size (by repeat (first | (with_reducible first | exact HB.out | apply below_alloc | apply pw_below_drewN | apply below_drew1 | refine below_set ?_ ah.out | refine below_set ?_ ai.out) | exact HB.out))) : w.heap.size ≤ ab))
        have n5_ := Aside0.mk ((by rw [hg]; exact (below_size (by repeat (first | (with_reducible first | exact HB.out | apply below_alloc | apply pw_below_drewN | apply below_drew1 | refine below_set ?_ ah.out | refine below_set ?_ ai.out) | exact HB.out))) : w.heap.size ≤ ab))
        have n6_ := Aside0.mk ((by rw [hg]; exact Nat.ne_of_lt (blk_lt (g := af) (o := .cells #[.int .i64 ax, .int .i64 ay, .int .i64 az, .slice bb au.length bc, .slice bd av.length be, .int .i64 ba, .slice bf aw.length bg] 30 (0, 0)) (by (with_reducible repeat (first | refine blk_drewN ?_ _ | refine blk_drew ?_ | refine blk_alloc ?_ _)); exact ac.out)) : af ≠ ab))
        have n7_ := Aside0.mk ((by rw [hg]; exact Nat.ne_of_gt (blk_lt (g := af) (o := .cells #[.int .i64 ax, .int .i64 ay, .int .i64 az, .slice bb au.length bc, .slice bd av.length be, .int .i64 ba, .slice bf aw.length bg] 30 (0, 0)) (by (with_reducible repeat (first | refine blk_drewN ?_ _ | refine blk_drew ?_ | refine blk_alloc ?_ _)); exact ac.out)) : ab ≠ af))
        have n8_ := Aside0.mk ((by rw [hg]; exact Nat.ne_of_lt (blk_lt (g := aj) (o := .cells #[.int .i64 bk, .int .i64 bl, .int .i64 bm, .slice bu bi.length bv, .slice bw bj.length bx, .bool bn, .slice b4 bh.length bz] 37 (0, 0)) (by (with_reducible repeat (first | refine blk_drewN ?_ _ | refine blk_drew ?_ | refine blk_alloc ?_ _)); exact ad.out)) : aj ≠ ab))
        have n9_ := Aside0.mk ((by rw [hg]; exact Nat.ne_of_gt (blk_lt (g := aj) (o := .cells #[.int .i64 bk, .int .i64 bl, .int .i64 bm, .slice bu bi.length bv, .slice bw bj.length bx, .bool bn, .slice b4 bh.length bz] 37 (0, 0)) (by (with_reducible repeat (first | refine blk_drewN ?_ _ | refine blk_drew ?_ | refine blk_alloc ?_ _)); exact ad.out)) : ab ≠ aj))
        clear ac
        clear ad
        clear HB
        have ac := n0_
        have ad := n1_
        have HB := n2_
        have ae := n3_
        have dl := n4_
        have ao := n5_
        have aa := n6_
        have al := n7_
        have ag := n8_
        have an := n9_
        clear n0_ n1_ n2_ n3_ n4_ n5_ n6_ n7_ n8_ n9_
        clear hb hbox hg
        refine hK.out _ _ (ka4b4.b7e ac.out) (fun hHeld => ?_)
        clear hK K
        refine norm_ (a' := ?_) ?_ ?_
        rotate_left
        ·show Act.put _ (some 6) _ = _
         simp only [Act.put, List.setIfInBounds_toArray, List.set_cons_zero, List.set_cons_succ, i64_w, i32_w]
         rfl
        refine one_ (i := 1) (N := some 21) #[true, true, true, false, true, false, false] rfl rfl (by kernel_rfl) (by decide) (fun K hK => ?_)
        refine goes_ Try.func14 (by kernel_rfl) rfl #[.agg #[.int .i64 ax, .int .i64 ay, .int .i64 az, .slice bb au.length bc, .slice bd av.length be, .int .i64 ba, .slice bf aw.length bg]] (by rfl) rfl rfl (by (try simp only [List.map_toArray, List.map_cons, List.map_nil]); first | done | rfl) ?_
        with_reducible refine (attr_Text.calls dx ax ay az _ _ au _ _ av ba _ _ aw t478 _ ?side1 ?side2 ?side3 ?side4 ?side5 ?side6 A20.out).mono ?_
        (case side1 | side3 | side5 => repeat (first | exact (Kd.C_below db.out HB.out) | exact (Kd.C_below dd.out HB.out) | exact (Kd.C_below df.out HB.out) | (with_reducible refine Kd.C_alloc ?_ _) | (with_reducible refine Kd.C_drewN ?_ _) | (with_reducible refine Kd.C_drew ?_)))
        (case side2 | side4 | side6 => first | exact dc.out | exact de.out | exact dg.out)
        rintro e w30 ⟨rfl, hb⟩
        refine ⟨_, rfl, ?_⟩
        replace ac := Aside0.mk (ka4b4.q ac.out hb rfl)
        replace ad := Aside0.mk (ka4b4.q ad.out hb rfl)
        replace ae := Aside0.mk (ka4b4.q ae.out hb rfl)
        replace HB := Aside0.mk (below_step (by repeat (first | (with_reducible first | exact HB.out | apply below_alloc | apply pw_below_drewN | apply below_drew1 | refine below_set ?_ ah.out | refine below_set ?_ ai.out | refine below_set ?_ ao.out) | exact HB.out)) hb)
        (try clear hb)
        (try clear dw)
        (try clear hk)
        (try clear hi)
        refine hK.out _ _ (ka4b4.b7e ac.out) (fun hHeld => ?_)
        clear hK K
        refine norm_ (a' := ?_) ?_ ?_
        rotate_left
        ·show Act.put _ (some 21) _ = _
         simp only [Act.put, List.setIfInBounds_toArray, List.set_cons_zero, List.set_cons_succ, i64_w, i32_w]
         rfl
        refine one_ (i := 3) (N := some 23) #[true, true, true, true, true, false, false] rfl rfl (by kernel_rfl) (by decide) (fun K hK => ?_)
        refine goes_ Try.func25 (by kernel_rfl) rfl #[.agg #[.int .i64 ax, .int .i64 ay, .int .i64 az, .slice bb au.length bc, .slice bd av.length be, .int .i64 ba, .slice bf aw.length bg]] (by rfl) rfl rfl (by (try simp only [List.map_toArray, List.map_cons, List.map_nil]); first | done | rfl) ?_
        with_reducible refine (attr_Copy.calls ax ay az _ _ au _ _ av ba _ _ aw t479 t480 t481 t482 t485 t488 t489 _ ?side1 ?side2 ?side3 ?side4 ?side5 ?side6 A21.out).mono ?_
        (case side1 | side3 | side5 => repeat (first | exact (Kd.C_below db.out HB.out) | exact (Kd.C_below dd.out HB.out) | exact (Kd.C_below df.out HB.out) | (with_reducible refine Kd.C_alloc ?_ _) | (with_reducible refine Kd.C_drewN ?_ _) | (with_reducible refine Kd.C_drew ?_)))
        (case side2 | side4 | side6 => first | exact dc.out | exact de.out | exact dg.out)
        rintro e w31 ⟨v483, v486, v490, rfl, ho0, ho1, ho2, hb⟩
        refine ⟨_, rfl, ?_⟩
        have ap := Aside0.mk (Kd.R_lower ho0 (below_size (by repeat (first | (with_reducible first | exact HB.out | apply below_alloc | apply pw_below_drewN | apply below_drew1 | refine below_set ?_ ah.out | refine below_set ?_ ai.out | refine below_set ?_ ao.out) | exact HB.out))))
        have ar := Aside0.mk (Kd.R_lower ho1 (below_size (by repeat (first | (with_reducible first | exact HB.out | apply below_alloc | apply pw_below_drewN | apply below_drew1 | refine below_set ?_ ah.out | refine below_set ?_ ai.out | refine below_set ?_ ao.out) | exact HB.out))))
        have aq := Aside0.mk (Kd.R_lower ho2 (below_size (by repeat (first | (with_reducible first | exact HB.out | apply below_alloc | apply pw_below_drewN | apply below_drew1 | refine below_set ?_ ah.out | refine below_set ?_ ai.out | refine below_set ?_ ao.out) | exact HB.out))))
        replace ac := Aside0.mk (ka4b4.q ac.out hb rfl)
        replace ad := Aside0.mk (ka4b4.q ad.out hb rfl)
        replace ae := Aside0.mk (ka4b4.q ae.out hb rfl)
        replace HB := Aside0.mk (below_step (by repeat (first | (with_reducible first | exact HB.out | apply below_alloc | apply pw_below_drewN | apply below_drew1 | refine below_set ?_ ah.out | refine below_set ?_ ai.out | refine below_set ?_ ao.out) | exact HB.out)) hb)
        (try clear hb)
        (try clear dw)
        (try clear hk)
        (try clear hi)
        (try clear ho0)
        (try clear ho1)
        (try clear ho2)
        refine hK.out _ _ (ka4b4.b7e ac.out) (fun hHeld => ?_)
        clear hK K
        refine norm_ (a' := ?_) ?_ ?_
        rotate_left
        ·show Act.put _ (some 23) _ = _
         simp only [Act.put, List.setIfInBounds_toArray, List.set_cons_zero, List.set_cons_succ, i64_w, i32_w]
         rfl
        exact norm_ (by simp only [putAll, Act.put, List.setIfInBounds_toArray, List.set_cons_zero, List.set_cons_succ]) (hCont (v483, v486, v490, ab) _ ⟨hHeld, (by (with_reducible repeat (first | apply Kd.R_alloc | apply Kd.R_drewN | apply Kd.R_drew)); exact ap.out), (by (with_reducible repeat (first | apply Kd.R_alloc | apply Kd.R_drewN | apply Kd.R_drew)); exact ar.out), (by (with_reducible repeat (first | apply Kd.R_alloc | apply Kd.R_drewN | apply Kd.R_drew)); exact aq.out), (by (with_reducible repeat (first | refine blk_drewN ?_ _ | refine blk_drew ?_ | refine blk_alloc ?_ _)); exact ac.out), (by (with_reducible repeat (first | refine blk_drewN ?_ _ | refine blk_drew ?_ | refine blk_alloc ?_ _)); exact ad.out), (by (with_reducible repeat (first | refine blk_drewN ?_ _ | refine blk_drew ?_ | refine blk_alloc ?_ _)); exact ae.out), dl.out, ao.out, aa.out, al.out, ag.out, an.out, (by repeat (first | (with_reducible first | exact HB.out | apply below_alloc | apply pw_below_drewN | apply below_drew1 | refine below_set ?_ ah.out | refine below_set ?_ ai.out | refine below_set ?_ ao.out) | exact HB.out))⟩)
      rintro ⟨v483, v486, v490, ab⟩ w32 ⟨hS_, h0_, h1_, h2_, h3_, h4_, h5_, h6_, h7_, h8_, h9_, h10_, h11_, h12_⟩
      have n0_ : Aside0 (Kd.R (Kd.int .i64) 3 w32 w.heap.size (fun k_ => some k_ ≠ (v490 : Value).ownBlock) v483 t482) := ⟨h0_⟩
      have n1_ : Aside0 (Kd.R k63 63 w32 w.heap.size (fun _ => True) v486 t485) := ⟨h1_⟩
      have n2_ : Aside0 (Kd.R (Kd.int .i64) 3 w32 w.heap.size (fun k_ => some k_ ≠ (v483 : Value).ownBlock) v490 t489) := ⟨h2_⟩
      have n3_ : Aside0 (w32.heap[af]? = some (.cells #[.int .i64 ax, .int .i64 ay, .int .i64 az, .slice bb au.length bc, .slice bd av.length be, .int .i64 ba, .slice bf aw.length bg] 30 (0, 0))) := ⟨h3_⟩
      have n4_ : Aside0 (w32.heap[aj]? = some (.cells #[.int .i64 bk, .int .i64 bl, .int .i64 bm, .slice bu bi.length bv, .slice bw bj.length bx, .bool bn, .slice b4 bh.length bz] 37 (0, 0))) := ⟨h4_⟩
      have n5_ : Aside0 (w32.heap[ab]? = some (.cells #[.int .i64 0, .int .i64 0, .int .i64 0, .slice none 0 0, .slice none 0 0, .int .i64 0, .slice none 0 0] 30 (0, 0))) := ⟨h5_⟩
      have n6_ : Aside0 (w.heap.size ≤ ab) := ⟨h6_⟩
      have n7_ : Aside0 (w.heap.size ≤ ab) := ⟨h7_⟩
      have n8_ : Aside0 (af ≠ ab) := ⟨h8_⟩
      have n9_ : Aside0 (ab ≠ af) := ⟨h9_⟩
      have n10_ : Aside0 (aj ≠ ab) := ⟨h10_⟩
      have n11_ : Aside0 (ab ≠ aj) := ⟨h11_⟩
      have n12_ : Aside0 (Below w.heap.size w w32) := ⟨h12_⟩
      clear ac
      clear ad
      clear HB
      clear h0_ h1_ h2_ h3_ h4_ h5_ h6_ h7_ h8_ h9_ h10_ h11_ h12_
      have ap := n0_
      have ar := n1_
      have aq := n2_
      have ac := n3_
      have ad := n4_
      have ae := n5_
      have dl := n6_
      have ao := n7_
      have aa := n8_
      have al := n9_
      have ag := n10_
      have an := n11_
      have HB := n12_
      clear n0_ n1_ n2_ n3_ n4_ n5_ n6_ n7_ n8_ n9_ n10_ n11_ n12_
      have hHeld : w32.cell? ⟨af, 0, none⟩ = some (.int .i64 ax) ∧ w32.cell? ⟨af, 1, none⟩ = some (.int .i64 ay) ∧ w32.cell? ⟨af, 2, none⟩ = some (.int .i64 az) ∧ w32.cell? ⟨af, 3, none⟩ = some (.slice bb au.length bc) ∧ w32.cell? ⟨af, 4, none⟩ = some (.slice bd av.length be) ∧ w32.cell? ⟨af, 5, none⟩ = some (.int .i64 ba) ∧ w32.cell? ⟨af, 6, none⟩ = some (.slice bf aw.length bg) := hS_
      obtain ⟨bp, bo, eo36⟩ := Kd.R_slice ap.out
      (first | subst eo36 | (injection eo36 with f1_ f2_ f3_; have f4_ := f1_.symm; have f5_ := f3_.symm; clear f1_ f2_ f3_; subst f4_; subst f5_))
      obtain ⟨di, dh, eo38⟩ := Kd.R_slice ar.out
      (first | subst eo38 | (injection eo38 with f1_ f2_ f3_; have f4_ := f1_.symm; have f5_ := f3_.symm; clear f1_ f2_ f3_; subst f4_; subst f5_))
      obtain ⟨bs, br, eo41⟩ := Kd.R_slice aq.out
      (first | subst eo41 | (injection eo41 with f1_ f2_ f3_; have f4_ := f1_.symm; have f5_ := f3_.symm; clear f1_ f2_ f3_; subst f4_; subst f5_))
      refine norm_ (a' := ?_) ?_ ?_
      rotate_left
      ·simp only [putAll, Act.put, List.setIfInBounds_toArray, List.set_cons_zero, List.set_cons_succ]
       rfl
      refine pure_ (i := 5) (N := some 5) (v := ?_) (a' := ?_) #[true, true, true, true, true, true, false] rfl rfl (by kernel_rfl) (fun _ _ _ h => h) (Or.inl ⟨by rfl, ?_⟩) ?_ ?_
      rotate_left
      ·intro w'
       go_simp
       with_reducible rfl
      rotate_left
      ·simp only [Act.put, List.setIfInBounds_toArray, List.set_cons_zero, List.set_cons_succ, i64_w, i32_w]
       rfl
      refine one_ (i := 6) (N := none) #[true, true, true, true, true, true, true] rfl rfl (by kernel_rfl) (by decide) (fun K hK => ?_)
      have hs33 : w32.cell? ⟨ab, 0, none⟩ = some (.int .i64 0) := (blk_cell ae.out 0).trans rfl
      have hfs33 := blk_frozen ae.out 0
      have hns33_0 := aa.out
      have hns33_1 := ag.out
      have hms33_0 := al.out
      have hms33_1 := an.out
      have hs34 : w32.cell? ⟨ab, 1, none⟩ = some (.int .i64 0) := (blk_cell ae.out 1).trans rfl
      have hfs34 := blk_frozen ae.out 1
      have hns34_0 := aa.out
      have hns34_1 := ag.out
      have hms34_0 := al.out
      have hms34_1 := an.out
      have hs35 : w32.cell? ⟨ab, 2, none⟩ = some (.int .i64 0) := (blk_cell ae.out 2).trans rfl
      have hfs35 := blk_frozen ae.out 2
      have hns35_0 := aa.out
      have hns35_1 := ag.out
      have hms35_0 := al.out
      have hms35_1 := an.out
      have hs37 : w32.cell? ⟨ab, 3, none⟩ = some (.slice none 0 0) := (blk_cell ae.out 3).trans rfl
      have hfs37 := blk_frozen ae.out 3
      have hns37_0 := aa.out
      have hns37_1 := ag.out
      have hms37_0 := al.out
      have hms37_1 := an.out
      have hs39 : w32.cell? ⟨ab, 4, none⟩ = some (.slice none 0 0) := (blk_cell ae.out 4).trans rfl
      have hfs39 := blk_frozen ae.out 4
      have hns39_0 := aa.out
      have hns39_1 := ag.out
      have hms39_0 := al.out
      have hms39_1 := an.out
      have hs40 : w32.cell? ⟨ab, 5, none⟩ = some (.int .i64 0) := (blk_cell ae.out 5).trans rfl
      have hfs40 := blk_frozen ae.out 5
      have hns40_0 := aa.out
      have hns40_1 := ag.out
      have hms40_0 := al.out
      have hms40_1 := an.out
      have hs42 : w32.cell? ⟨ab, 6, none⟩ = some (.slice none 0 0) := (blk_cell ae.out 6).trans rfl
      have hfs42 := blk_frozen ae.out 6
      have hns42_0 := aa.out
      have hns42_1 := ag.out
      have hms42_0 := al.out
      have hms42_1 := an.out
      refine skip_ (w1 := ?_) (by rfl) rfl ?_ ?_
      rotate_left
      ·go_simp
       rfl
      refine hK.out _ _ ⟨((cell_far (p := ⟨ab, _, none⟩) aa.out _).trans (((cell_far (p := ⟨ab, _, none⟩) aa.out _).trans (((cell_far (p := ⟨ab, _, none⟩) aa.out _).trans (((cell_far (p := ⟨ab, _, none⟩) aa.out _).trans (((cell_far (p := ⟨ab, _, none⟩) aa.out _).trans (((cell_far (p := ⟨ab, _, none⟩) aa.out _).trans (((cell_far (p := ⟨ab, _, none⟩) aa.out _).trans (hHeld.1)))))))))))))), ((cell_far (p := ⟨ab, _, none⟩) aa.out _).trans (((cell_far (p := ⟨ab, _, none⟩) aa.out _).trans (((cell_far (p := ⟨ab, _, none⟩) aa.out _).trans (((cell_far (p := ⟨ab, _, none⟩) aa.out _).trans (((cell_far (p := ⟨ab, _, none⟩) aa.out _).trans (((cell_far (p := ⟨ab, _, none⟩) aa.out _).trans (((cell_far (p := ⟨ab, _, none⟩) aa.out _).trans (hHeld.2.1)))))))))))))), ((cell_far (p := ⟨ab, _, none⟩) aa.out _).trans (((cell_far (p := ⟨ab, _, none⟩) aa.out _).trans (((cell_far (p := ⟨ab, _, none⟩) aa.out _).trans (((cell_far (p := ⟨ab, _, none⟩) aa.out _).trans (((cell_far (p := ⟨ab, _, none⟩) aa.out _).trans (((cell_far (p := ⟨ab, _, none⟩) aa.out _).trans (((cell_far (p := ⟨ab, _, none⟩) aa.out _).trans (hHeld.2.2.1)))))))))))))), ((cell_far (p := ⟨ab, _, none⟩) aa.out _).trans (((cell_far (p := ⟨ab, _, none⟩) aa.out _).trans (((cell_far (p := ⟨ab, _, none⟩) aa.out _).trans (((cell_far (p := ⟨ab, _, none⟩) aa.out _).trans (((cell_far (p := ⟨ab, _, none⟩) aa.out _).trans (((cell_far (p := ⟨ab, _, none⟩) aa.out _).trans (((cell_far (p := ⟨ab, _, none⟩) aa.out _).trans (hHeld.2.2.2.1)))))))))))))), ((cell_far (p := ⟨ab, _, none⟩) aa.out _).trans (((cell_far (p := ⟨ab, _, none⟩) aa.out _).trans (((cell_far (p := ⟨ab, _, none⟩) aa.out _).trans (((cell_far (p := ⟨ab, _, none⟩) aa.out _).trans (((cell_far (p := ⟨ab, _, none⟩) aa.out _).trans (((cell_far (p := ⟨ab, _, none⟩) aa.out _).trans (((cell_far (p := ⟨ab, _, none⟩) aa.out _).trans (hHeld.2.2.2.2.1)))))))))))))), ((cell_far (p := ⟨ab, _, none⟩) aa.out _).trans (((cell_far (p := ⟨ab, _, none⟩) aa.out _).trans (((cell_far (p := ⟨ab, _, none⟩) aa.out _).trans (((cell_far (p := ⟨ab, _, none⟩) aa.out _).trans (((cell_far (p := ⟨ab, _, none⟩) aa.out _).trans (((cell_far (p := ⟨ab, _, none⟩) aa.out _).trans (((cell_far (p := ⟨ab, _, none⟩) aa.out _).trans (hHeld.2.2.2.2.2.1)))))))))))))), ((cell_far (p := ⟨ab, _, none⟩) aa.out _).trans (((cell_far (p := ⟨ab, _, none⟩) aa.out _).trans (((cell_far (p := ⟨ab, _, none⟩) aa.out _).trans (((cell_far (p := ⟨ab, _, none⟩) aa.out _).trans (((cell_far (p := ⟨ab, _, none⟩) aa.out _).trans (((cell_far (p := ⟨ab, _, none⟩) aa.out _).trans (((cell_far (p := ⟨ab, _, none⟩) aa.out _).trans (hHeld.2.2.2.2.2.2))))))))))))))⟩ (fun hHeld => ?_)
      clear hK K
      refine done_ (by kernel_rfl) ?_
      have hnb43 := al.out
      have hnc43 := aa.out
      have hnb44 := an.out
      have hnc44 := ag.out
      have hcz45_0 : w32.cell? ⟨ab, 0, none⟩ = some (.int .i64 0) := (blk_cell ae.out 0).trans rfl
      have hcz45_1 : w32.cell? ⟨ab, 1, none⟩ = some (.int .i64 0) := (blk_cell ae.out 1).trans rfl
      have hcz45_2 : w32.cell? ⟨ab, 2, none⟩ = some (.int .i64 0) := (blk_cell ae.out 2).trans rfl
      have hcz45_3 : w32.cell? ⟨ab, 3, none⟩ = some (.slice none 0 0) := (blk_cell ae.out 3).trans rfl
      have hcz45_4 : w32.cell? ⟨ab, 4, none⟩ = some (.slice none 0 0) := (blk_cell ae.out 4).trans rfl
      have hcz45_5 : w32.cell? ⟨ab, 5, none⟩ = some (.int .i64 0) := (blk_cell ae.out 5).trans rfl
      have hcz45_6 : w32.cell? ⟨ab, 6, none⟩ = some (.slice none 0 0) := (blk_cell ae.out 6).trans rfl
      have hfz45_0 := blk_frozen ae.out 0
      have hfz45_1 := blk_frozen ae.out 1
      have hfz45_2 := blk_frozen ae.out 2
      have hfz45_3 := blk_frozen ae.out 3
      have hfz45_4 := blk_frozen ae.out 4
      have hfz45_5 := blk_frozen ae.out 5
      have hfz45_6 := blk_frozen ae.out 6
      have hnb46 := NB473_474.out
      have hnc46 := NB474_473.out
      have hcz47_0 : w32.cell? ⟨af, 0, none⟩ = some (.int .i64 ax) := (blk_cell ac.out 0).trans rfl
      have hcz47_1 : w32.cell? ⟨af, 1, none⟩ = some (.int .i64 ay) := (blk_cell ac.out 1).trans rfl
      have hcz47_2 : w32.cell? ⟨af, 2, none⟩ = some (.int .i64 az) := (blk_cell ac.out 2).trans rfl
      have hcz47_3 : w32.cell? ⟨af, 3, none⟩ = some (.slice bb au.length bc) := (blk_cell ac.out 3).trans rfl
      have hcz47_4 : w32.cell? ⟨af, 4, none⟩ = some (.slice bd av.length be) := (blk_cell ac.out 4).trans rfl
      have hcz47_5 : w32.cell? ⟨af, 5, none⟩ = some (.int .i64 ba) := (blk_cell ac.out 5).trans rfl
      have hcz47_6 : w32.cell? ⟨af, 6, none⟩ = some (.slice bf aw.length bg) := (blk_cell ac.out 6).trans rfl
      have hfz47_0 := blk_frozen ac.out 0
      have hfz47_1 := blk_frozen ac.out 1
      have hfz47_2 := blk_frozen ac.out 2
      have hfz47_3 := blk_frozen ac.out 3
      have hfz47_4 := blk_frozen ac.out 4
      have hfz47_5 := blk_frozen ac.out 5
      have hfz47_6 := blk_frozen ac.out 6
      try go_wp2_with (first | ((with_reducible refine gate_callee (f := 18) rfl ?_); refine goesL_ (some 26) rfl rfl Try.func18 (by kernel_rfl) rfl #[.agg #[.int .i64 t479, .int .i64 t480, .int .i64 t481, .slice bp t482.length bo, .slice di t485.length dh, .int .i64 t488, .slice bs t489.length br], .agg #[.int .i64 ax, .int .i64 ay, .int .i64 az, .slice bb au.length bc, .slice bd av.length be, .int .i64 ba, .slice bf aw.length bg]] rfl (by (try simp only [List.map_toArray, List.map_cons, List.map_nil]); first | done | rfl) ?_; (with_reducible refine (attr_Same.calls dx t479 t480 t481 _ _ t482 _ _ t485 t488 _ _ t489 ax ay az _ _ au _ _ av ba _ _ aw true _ ?side1 ?side2 ?side3 ?side4 ?side5 ?side6 ?side7 ?side8 ?side9 ?side10 ?side11 ?side12 A22.out).mono ?_); (case side1 => refine (Kd.R_reads' (e := 3) (base := w.heap.size) (ok := fun k_ => some k_ ≠ (.slice bs t489.length br : Value).ownBlock) (n := t482.length) (c := bo) ?_).2.2; exact (by (with_reducible repeat (first | apply Kd.R_alloc | apply Kd.R_drewN | apply Kd.R_drew)); exact (Kd.R_mono (Kd.R_far (p := ⟨ab, 6, none⟩) (Kd.R_far (p := ⟨ab, 5, none⟩) (Kd.R_far (p := ⟨ab, 4, none⟩) (Kd.R_far (p := ⟨ab, 3, none⟩) (Kd.R_far (p := ⟨ab, 2, none⟩) (Kd.R_far (p := ⟨ab, 1, none⟩) (Kd.R_far (p := ⟨ab, 0, none⟩) (Kd.R_types ap.out ae.out (by decide)) (fun _ hk => hk.2) (.int .i64 t479)) (fun _ hk => hk.2) (.int .i64 t480)) (fun _ hk => hk.2) (.int .i64 t481)) (fun _ hk => hk.2) (.slice bp t482.length bo)) (fun _ hk => hk.2) (.slice di t485.length dh)) (fun _ hk => hk.2) (.int .i64 t488)) (fun _ hk => hk.2) (.slice bs t489.length br)) (fun _ h_ => h_.1)))); (case side2 | side4 | side6 | side8 | side10 | side12 => first | exact (Kd.R_reads' ap.out).2.1 | exact (Kd.R_reads' ar.out).2.1 | exact (Kd.R_reads' aq.out).2.1 | exact dc.out | exact de.out | exact dg.out); (case side3 => refine (Kd.R_reads' (e := 63) (base := w.heap.size) (ok := fun k_ => True) (n := t485.length) (c := dh) ?_).2.2; exact (by (with_reducible repeat (first | apply Kd.R_alloc | apply Kd.R_drewN | apply Kd.R_drew)); exact (Kd.R_mono (Kd.R_far (p := ⟨ab, 6, none⟩) (Kd.R_far (p := ⟨ab, 5, none⟩) (Kd.R_far (p := ⟨ab, 4, none⟩) (Kd.R_far (p := ⟨ab, 3, none⟩) (Kd.R_far (p := ⟨ab, 2, none⟩) (Kd.R_far (p := ⟨ab, 1, none⟩) (Kd.R_far (p := ⟨ab, 0, none⟩) (Kd.R_types ar.out ae.out (by decide)) (fun _ hk => hk.2) (.int .i64 t479)) (fun _ hk => hk.2) (.int .i64 t480)) (fun _ hk => hk.2) (.int .i64 t481)) (fun _ hk => hk.2) (.slice bp t482.length bo)) (fun _ hk => hk.2) (.slice di t485.length dh)) (fun _ hk => hk.2) (.int .i64 t488)) (fun _ hk => hk.2) (.slice bs t489.length br)) (fun _ h_ => h_.1)))); (case side5 => refine (Kd.R_reads' (e := 3) (base := w.heap.size) (ok := fun k_ => some k_ ≠ (.slice bp t482.length bo : Value).ownBlock) (n := t489.length) (c := br) ?_).2.2; exact (by (with_reducible repeat (first | apply Kd.R_alloc | apply Kd.R_drewN | apply Kd.R_drew)); exact (Kd.R_mono (Kd.R_far (p := ⟨ab, 6, none⟩) (Kd.R_far (p := ⟨ab, 5, none⟩) (Kd.R_far (p := ⟨ab, 4, none⟩) (Kd.R_far (p := ⟨ab, 3, none⟩) (Kd.R_far (p := ⟨ab, 2, none⟩) (Kd.R_far (p := ⟨ab, 1, none⟩) (Kd.R_far (p := ⟨ab, 0, none⟩) (Kd.R_types aq.out ae.out (by decide)) (fun _ hk => hk.2) (.int .i64 t479)) (fun _ hk => hk.2) (.int .i64 t480)) (fun _ hk => hk.2) (.int .i64 t481)) (fun _ hk => hk.2) (.slice bp t482.length bo)) (fun _ hk => hk.2) (.slice di t485.length dh)) (fun _ hk => hk.2) (.int .i64 t488)) (fun _ hk => hk.2) (.slice bs t489.length br)) (fun _ h_ => h_.1)))); (case side7 => exact Kd.C_below db.out (by repeat (first | (with_reducible first | exact HB.out | apply below_alloc | apply pw_below_drewN | apply below_drew1 | refine below_set ?_ ah.out | refine below_set ?_ ai.out | refine below_set ?_ ao.out) | exact HB.out))); (case side9 => exact Kd.C_below dd.out (by repeat (first | (with_reducible first | exact HB.out | apply below_alloc | apply pw_below_drewN | apply below_drew1 | refine below_set ?_ ah.out | refine below_set ?_ ai.out | refine below_set ?_ ao.out) | exact HB.out))); (case side11 => exact Kd.C_below df.out (by repeat (first | (with_reducible first | exact HB.out | apply below_alloc | apply pw_below_drewN | apply below_drew1 | refine below_set ?_ ah.out | refine below_set ?_ ai.out | refine below_set ?_ ao.out) | exact HB.out))); rintro e w48 ⟨rfl, hb⟩; refine ⟨_, rfl, ?_⟩; replace ap := Aside0.mk (Kd.R_below (by (with_reducible repeat (first | apply Kd.R_alloc | apply Kd.R_drewN | apply Kd.R_drew)); exact (Kd.R_mono (Kd.R_far (p := ⟨ab, 6, none⟩) (Kd.R_far (p := ⟨ab, 5, none⟩) (Kd.R_far (p := ⟨ab, 4, none⟩) (Kd.R_far (p := ⟨ab, 3, none⟩) (Kd.R_far (p := ⟨ab, 2, none⟩) (Kd.R_far (p := ⟨ab, 1, none⟩) (Kd.R_far (p := ⟨ab, 0, none⟩) (Kd.R_types ap.out ae.out (by decide)) (fun _ hk => hk.2) (.int .i64 t479)) (fun _ hk => hk.2) (.int .i64 t480)) (fun _ hk => hk.2) (.int .i64 t481)) (fun _ hk => hk.2) (.slice bp t482.length bo)) (fun _ hk => hk.2) (.slice di t485.length dh)) (fun _ hk => hk.2) (.int .i64 t488)) (fun _ hk => hk.2) (.slice bs t489.length br)) (fun _ h_ => h_.1))) hb); replace ar := Aside0.mk (Kd.R_below (by (with_reducible repeat (first | apply Kd.R_alloc | apply Kd.R_drewN | apply Kd.R_drew)); exact (Kd.R_mono (Kd.R_far (p := ⟨ab, 6, none⟩) (Kd.R_far (p := ⟨ab, 5, none⟩) (Kd.R_far (p := ⟨ab, 4, none⟩) (Kd.R_far (p := ⟨ab, 3, none⟩) (Kd.R_far (p := ⟨ab, 2, none⟩) (Kd.R_far (p := ⟨ab, 1, none⟩) (Kd.R_far (p := ⟨ab, 0, none⟩) (Kd.R_types ar.out ae.out (by decide)) (fun _ hk => hk.2) (.int .i64 t479)) (fun _ hk => hk.2) (.int .i64 t480)) (fun _ hk => hk.2) (.int .i64 t481)) (fun _ hk => hk.2) (.slice bp t482.length bo)) (fun _ hk => hk.2) (.slice di t485.length dh)) (fun _ hk => hk.2) (.int .i64 t488)) (fun _ hk => hk.2) (.slice bs t489.length br)) (fun _ h_ => h_.1))) hb); replace aq := Aside0.mk (Kd.R_below (by (with_reducible repeat (first | apply Kd.R_alloc | apply Kd.R_drewN | apply Kd.R_drew)); exact (Kd.R_mono (Kd.R_far (p := ⟨ab, 6, none⟩) (Kd.R_far (p := ⟨ab, 5, none⟩) (Kd.R_far (p := ⟨ab, 4, none⟩) (Kd.R_far (p := ⟨ab, 3, none⟩) (Kd.R_far (p := ⟨ab, 2, none⟩) (Kd.R_far (p := ⟨ab, 1, none⟩) (Kd.R_far (p := ⟨ab, 0, none⟩) (Kd.R_types aq.out ae.out (by decide)) (fun _ hk => hk.2) (.int .i64 t479)) (fun _ hk => hk.2) (.int .i64 t480)) (fun _ hk => hk.2) (.int .i64 t481)) (fun _ hk => hk.2) (.slice bp t482.length bo)) (fun _ hk => hk.2) (.slice di t485.length dh)) (fun _ hk => hk.2) (.int .i64 t488)) (fun _ hk => hk.2) (.slice bs t489.length br)) (fun _ h_ => h_.1))) hb); replace ac := Aside0.mk (blk_below (g := af) (o := .cells #[.int .i64 ax, .int .i64 ay, .int .i64 az, .slice bb au.length bc, .slice bd av.length be, .int .i64 ba, .slice bf aw.length bg] 30 (0, 0)) (by (with_reducible repeat (first | refine blk_drewN ?_ _ | refine blk_drew ?_ | refine blk_alloc ?_ _)); refine blk_far ?_ aa.out _; (with_reducible repeat (first | refine blk_drewN ?_ _ | refine blk_drew ?_ | refine blk_alloc ?_ _)); refine blk_far ?_ aa.out _; (with_reducible repeat (first | refine blk_drewN ?_ _ | refine blk_drew ?_ | refine blk_alloc ?_ _)); refine blk_far ?_ aa.out _; (with_reducible repeat (first | refine blk_drewN ?_ _ | refine blk_drew ?_ | refine blk_alloc ?_ _)); refine blk_far ?_ aa.out _; (with_reducible repeat (first | refine blk_drewN ?_ _ | refine blk_drew ?_ | refine blk_alloc ?_ _)); refine blk_far ?_ aa.out _; (with_reducible repeat (first | refine blk_drewN ?_ _ | refine blk_drew ?_ | refine blk_alloc ?_ _)); refine blk_far ?_ aa.out _; (with_reducible repeat (first | refine blk_drewN ?_ _ | refine blk_drew ?_ | refine blk_alloc ?_ _)); refine blk_far ?_ aa.out _; (with_reducible repeat (first | refine blk_drewN ?_ _ | refine blk_drew ?_ | refine blk_alloc ?_ _)); exact ac.out) hb); replace ad := Aside0.mk (blk_below (g := aj) (o := .cells #[.int .i64 bk, .int .i64 bl, .int .i64 bm, .slice bu bi.length bv, .slice bw bj.length bx, .bool bn, .slice b4 bh.length bz] 37 (0, 0)) (by (with_reducible repeat (first | refine blk_drewN ?_ _ | refine blk_drew ?_ | refine blk_alloc ?_ _)); refine blk_far ?_ ag.out _; (with_reducible repeat (first | refine blk_drewN ?_ _ | refine blk_drew ?_ | refine blk_alloc ?_ _)); refine blk_far ?_ ag.out _; (with_reducible repeat (first | refine blk_drewN ?_ _ | refine blk_drew ?_ | refine blk_alloc ?_ _)); refine blk_far ?_ ag.out _; (with_reducible repeat (first | refine blk_drewN ?_ _ | refine blk_drew ?_ | refine blk_alloc ?_ _)); refine blk_far ?_ ag.out _; (with_reducible repeat (first | refine blk_drewN ?_ _ | refine blk_drew ?_ | refine blk_alloc ?_ _)); refine blk_far ?_ ag.out _; (with_reducible repeat (first | refine blk_drewN ?_ _ | refine blk_drew ?_ | refine blk_alloc ?_ _)); refine blk_far ?_ ag.out _; (with_reducible repeat (first | refine blk_drewN ?_ _ | refine blk_drew ?_ | refine blk_alloc ?_ _)); refine blk_far ?_ ag.out _; (with_reducible repeat (first | refine blk_drewN ?_ _ | refine blk_drew ?_ | refine blk_alloc ?_ _)); exact ad.out) hb); replace ae := Aside0.mk (blk_below (g := ab) (o := .cells #[.int .i64 t479, .int .i64 t480, .int .i64 t481, .slice bp t482.length bo, .slice di t485.length dh, .int .i64 t488, .slice bs t489.length br] 30 (0, 0)) (by (with_reducible repeat (first | refine blk_drewN ?_ _ | refine blk_drew ?_ | refine blk_alloc ?_ _)); refine blk_put (cs := #[.int .i64 t479, .int .i64 t480, .int .i64 t481, .slice bp t482.length bo, .slice di t485.length dh, .int .i64 t488, .slice none 0 0]) ?_ 6 _ rfl; (with_reducible repeat (first | refine blk_drewN ?_ _ | refine blk_drew ?_ | refine blk_alloc ?_ _)); refine blk_put (cs := #[.int .i64 t479, .int .i64 t480, .int .i64 t481, .slice bp t482.length bo, .slice di t485.length dh, .int .i64 0, .slice none 0 0]) ?_ 5 _ rfl; (with_reducible repeat (first | refine blk_drewN ?_ _ | refine blk_drew ?_ | refine blk_alloc ?_ _)); refine blk_put (cs := #[.int .i64 t479, .int .i64 t480, .int .i64 t481, .slice bp t482.length bo, .slice none 0 0, .int .i64 0, .slice none 0 0]) ?_ 4 _ rfl; (with_reducible repeat (first | refine blk_drewN ?_ _ | refine blk_drew ?_ | refine blk_alloc ?_ _)); refine blk_put (cs := #[.int .i64 t479, .int .i64 t480, .int .i64 t481, .slice none 0 0, .slice none 0 0, .int .i64 0, .slice none 0 0]) ?_ 3 _ rfl; (with_reducible repeat (first | refine blk_drewN ?_ _ | refine blk_drew ?_ | refine blk_alloc ?_ _)); refine blk_put (cs := #[.int .i64 t479, .int .i64 t480, .int .i64 0, .slice none 0 0, .slice none 0 0, .int .i64 0, .slice none 0 0]) ?_ 2 _ rfl; (with_reducible repeat (first | refine blk_drewN ?_ _ | refine blk_drew ?_ | refine blk_alloc ?_ _)); refine blk_put (cs := #[.int .i64 t479, .int .i64 0, .int .i64 0, .slice none 0 0, .slice none 0 0, .int .i64 0, .slice none 0 0]) ?_ 1 _ rfl; (with_reducible repeat (first | refine blk_drewN ?_ _ | refine blk_drew ?_ | refine blk_alloc ?_ _)); refine blk_put (cs := #[.int .i64 0, .int .i64 0, .int .i64 0, .slice none 0 0, .slice none 0 0, .int .i64 0, .slice none 0 0]) ?_ 0 _ rfl; (with_reducible repeat (first | refine blk_drewN ?_ _ | refine blk_drew ?_ | refine blk_alloc ?_ _)); exact ae.out) hb); replace HB := Aside0.mk (below_step (by repeat (first | (with_reducible first | exact HB.out | apply below_alloc | apply pw_below_drewN | apply below_drew1 | refine below_set ?_ ah.out | refine below_set ?_ ai.out | refine below_set ?_ ao.out) | exact HB.out)) hb); (try clear hb); (try clear dw); (try clear hk); (try clear hi); have hcz49_0 : w48.cell? ⟨aj, 0, none⟩ = some (.int .i64 bk) := (blk_cell ad.out 0).trans rfl; have hcz49_1 : w48.cell? ⟨aj, 1, none⟩ = some (.int .i64 bl) := (blk_cell ad.out 1).trans rfl; have hcz49_2 : w48.cell? ⟨aj, 2, none⟩ = some (.int .i64 bm) := (blk_cell ad.out 2).trans rfl; have hcz49_3 : w48.cell? ⟨aj, 3, none⟩ = some (.slice bu bi.length bv) := (blk_cell ad.out 3).trans rfl; have hcz49_4 : w48.cell? ⟨aj, 4, none⟩ = some (.slice bw bj.length bx) := (blk_cell ad.out 4).trans rfl; have hcz49_5 : w48.cell? ⟨aj, 5, none⟩ = some (.bool bn) := (blk_cell ad.out 5).trans rfl; have hcz49_6 : w48.cell? ⟨aj, 6, none⟩ = some (.slice b4 bh.length bz) := (blk_cell ad.out 6).trans rfl; have hfz49_0 := blk_frozen ad.out 0; have hfz49_1 := blk_frozen ad.out 1; have hfz49_2 := blk_frozen ad.out 2; have hfz49_3 := blk_frozen ad.out 3; have hfz49_4 := blk_frozen ad.out 4; have hfz49_5 := blk_frozen ad.out 5; have hfz49_6 := blk_frozen ad.out 6) | ((with_reducible refine gate_builtin (b := .append) (xs := #[.tmp 28, .tmp 30]) rfl ?_); at_builtin; refine Kd.R_append_rows (Kd.int .i64) (w0 := w) w.heap.size rfl (.tmp 28) (.tmp 30) 27 3 (.int .i64 0) 8 rfl Try.underlying27 info3 rfl (by decide) (by omega) (.slice none 0 0) ([] : List Int) bh _ _ _ (fun k_ => some k_ ≠ (.slice bp t482.length bo : Value).ownBlock ∧ some k_ ≠ (.slice bs t489.length br : Value).ownBlock) (fun _ => False) rfl rfl ?aO ?aR (fun _ _ h => h) (fun _ h => h.elim) ?aF ?aB ?aS ?aL ?_; (case aR => repeat (first | exact (Kd.C_below HR1_6.out HB.out) | (with_reducible refine Kd.C_alloc ?_ _) | (with_reducible refine Kd.C_drewN ?_ _) | (with_reducible refine Kd.C_drew ?_))); (case aB => exact (by repeat (first | (with_reducible first | exact HB.out | apply below_alloc | apply pw_below_drewN | apply below_drew1 | refine below_set ?_ ah.out | refine below_set ?_ ai.out | refine below_set ?_ ao.out) | exact HB.out))); (case aF => exact (fun k_ hk => ⟨Kd.fresh' (Kd.R_lt (by (with_reducible repeat (first | apply Kd.R_alloc | apply Kd.R_drewN | apply Kd.R_drew)); exact ap.out)) k_ hk, Kd.fresh' (Kd.R_lt (by (with_reducible repeat (first | apply Kd.R_alloc | apply Kd.R_drewN | apply Kd.R_drew)); exact aq.out)) k_ hk⟩)); (case aO => exact ((Kd.R_nil _ _ _ _ (fun k_ => some k_ ≠ (.slice bp t482.length bo : Value).ownBlock ∧ some k_ ≠ (.slice bs t489.length br : Value).ownBlock)))); (case aS => exact (below_size (by repeat (first | (with_reducible first | exact HB.out | apply below_alloc | apply pw_below_drewN | apply below_drew1 | refine below_set ?_ ah.out | refine below_set ?_ ai.out | refine below_set ?_ ao.out) | exact HB.out)))); (case aL => have := LMc24.out; omega); intro v495 w50 ho hb hg hat; rw [← Ny494.out] at ho; replace ac := Aside0.mk (blk_grown (g := af) (o := .cells #[.int .i64 ax, .int .i64 ay, .int .i64 az, .slice bb au.length bc, .slice bd av.length be, .int .i64 ba, .slice bf aw.length bg] 30 (0, 0)) (by (with_reducible repeat (first | refine blk_drewN ?_ _ | refine blk_drew ?_ | refine blk_alloc ?_ _)); exact ac.out) hg (by simp [Value.ownBlock])); replace ad := Aside0.mk (blk_grown (g := aj) (o := .cells #[.int .i64 bk, .int .i64 bl, .int .i64 bm, .slice bu bi.length bv, .slice bw bj.length bx, .bool bn, .slice b4 bh.length bz] 37 (0, 0)) (by (with_reducible repeat (first | refine blk_drewN ?_ _ | refine blk_drew ?_ | refine blk_alloc ?_ _)); exact ad.out) hg (by simp [Value.ownBlock])); replace ap := Aside0.mk (Kd.R_after (Kd.R_apart_nil (by (with_reducible repeat (first | apply Kd.R_alloc | apply Kd.R_drewN | apply Kd.R_drew)); exact ap.out)) hg hat); replace ar := Aside0.mk (Kd.R_grown (by (with_reducible repeat (first | apply Kd.R_alloc | apply Kd.R_drewN | apply Kd.R_drew)); exact ar.out) hg (fun _ _ => by simp [Value.ownBlock])); replace aq := Aside0.mk (Kd.R_after (Kd.R_apart_nil (by (with_reducible repeat (first | apply Kd.R_alloc | apply Kd.R_drewN | apply Kd.R_drew)); exact aq.out)) hg hat); replace ae := Aside0.mk (blk_grown (g := ab) (o := .cells #[.int .i64 t479, .int .i64 t480, .int .i64 t481, .slice bp t482.length bo, .slice di t485.length dh, .int .i64 t488, .slice bs t489.length br] 30 (0, 0)) (by (with_reducible repeat (first | refine blk_drewN ?_ _ | refine blk_drew ?_ | refine blk_alloc ?_ _)); exact ae.out) hg (by simp [Value.ownBlock])); replace HB := Aside0.mk (hb); have da := Aside0.mk (ho); clear ho hb hg hat; have hcz51_0 : w50.cell? ⟨af, 0, none⟩ = some (.int .i64 ax) := (blk_cell ac.out 0).trans rfl; have hcz51_1 : w50.cell? ⟨af, 1, none⟩ = some (.int .i64 ay) := (blk_cell ac.out 1).trans rfl; have hcz51_2 : w50.cell? ⟨af, 2, none⟩ = some (.int .i64 az) := (blk_cell ac.out 2).trans rfl; have hcz51_3 : w50.cell? ⟨af, 3, none⟩ = some (.slice bb au.length bc) := (blk_cell ac.out 3).trans rfl; have hcz51_4 : w50.cell? ⟨af, 4, none⟩ = some (.slice bd av.length be) := (blk_cell ac.out 4).trans rfl; have hcz51_5 : w50.cell? ⟨af, 5, none⟩ = some (.int .i64 ba) := (blk_cell ac.out 5).trans rfl; have hcz51_6 : w50.cell? ⟨af, 6, none⟩ = some (.slice bf aw.length bg) := (blk_cell ac.out 6).trans rfl; have hfz51_0 := blk_frozen ac.out 0; have hfz51_1 := blk_frozen ac.out 1; have hfz51_2 := blk_frozen ac.out 2; have hfz51_3 := blk_frozen ac.out 3; have hfz51_4 := blk_frozen ac.out 4; have hfz51_5 := blk_frozen ac.out 5; have hfz51_6 := blk_frozen ac.out 6; have hcz52_0 : w50.cell? ⟨aj, 0, none⟩ = some (.int .i64 bk) := (blk_cell ad.out 0).trans rfl; have hcz52_1 : w50.cell? ⟨aj, 1, none⟩ = some (.int .i64 bl) := (blk_cell ad.out 1).trans rfl; have hcz52_2 : w50.cell? ⟨aj, 2, none⟩ = some (.int .i64 bm) := (blk_cell ad.out 2).trans rfl; have hcz52_3 : w50.cell? ⟨aj, 3, none⟩ = some (.slice bu bi.length bv) := (blk_cell ad.out 3).trans rfl; have hcz52_4 : w50.cell? ⟨aj, 4, none⟩ = some (.slice bw bj.length bx) := (blk_cell ad.out 4).trans rfl; have hcz52_5 : w50.cell? ⟨aj, 5, none⟩ = some (.bool bn) := (blk_cell ad.out 5).trans rfl; have hcz52_6 : w50.cell? ⟨aj, 6, none⟩ = some (.slice b4 bh.length bz) := (blk_cell ad.out 6).trans rfl; have hfz52_0 := blk_frozen ad.out 0; have hfz52_1 := blk_frozen ad.out 1; have hfz52_2 := blk_frozen ad.out 2; have hfz52_3 := blk_frozen ad.out 3; have hfz52_4 := blk_frozen ad.out 4; have hfz52_5 := blk_frozen ad.out 5; have hfz52_6 := blk_frozen ad.out 6) | ((with_reducible refine gate_callee (f := 21) rfl ?_); refine goesL_ (some 35) rfl rfl Try.func21 (by kernel_rfl) rfl #[.agg #[.int .i64 ax, .int .i64 ay, .int .i64 az, .slice bb au.length bc, .slice bd av.length be, .int .i64 ba, .slice bf aw.length bg], .agg #[.int .i64 bk, .int .i64 bl, .int .i64 bm, .slice bu bi.length bv, .slice bw bj.length bx, .bool bn, .slice b4 bh.length bz]] rfl (by (try simp only [List.map_toArray, List.map_cons, List.map_nil]); first | done | rfl) ?_; (with_reducible refine (attr_Do.calls dx ax ay az _ _ au _ _ av ba _ _ aw bk bl bm _ _ bi _ _ bj bn _ _ bh t497 t498 t499 t500 t503 t506 t507 t510 _ ?side1 ?side2 ?side3 ?side4 ?side5 ?side6 ?side7 ?side8 ?side9 ?side10 ?side11 ?side12 A25.out).mono ?_); (case side1 | side3 | side5 | side7 | side9 | side11 => repeat (first | exact (Kd.C_below db.out HB.out) | exact (Kd.C_below dd.out HB.out) | exact (Kd.C_below df.out HB.out) | exact (Kd.C_below HR1_3.out HB.out) | exact (Kd.C_below HR1_4.out HB.out) | exact (Kd.C_below HR1_6.out HB.out) | (with_reducible refine Kd.C_alloc ?_ _) | (with_reducible refine Kd.C_drewN ?_ _) | (with_reducible refine Kd.C_drew ?_))); (case side2 | side4 | side6 | side8 | side10 | side12 => first | exact dc.out | exact de.out | exact dg.out | exact HC1_3.out | exact HC1_4.out | exact HC1_6.out); rintro e w53 ⟨v501, v504, v508, rfl, ho0, ho1, ho2, hb⟩; refine ⟨_, rfl, ?_⟩; have n0_ := Aside0.mk (Kd.R_mono (Kd.R_told (Kd.R_told (Kd.R_old (by (with_reducible repeat (first | apply Kd.R_alloc | apply Kd.R_drewN | apply Kd.R_drew)); exact ap.out) hb) (Kd.R_base ho0)) (Kd.R_base ho2)) (fun _ h_ => h_.1)); have n1_ := Aside0.mk (Kd.R_elder' (by (with_reducible repeat (first | apply Kd.R_alloc | apply Kd.R_drewN | apply Kd.R_drew)); exact ar.out) (Kd.R_base ho1) hb); have n2_ := Aside0.mk (Kd.R_mono (Kd.R_told (Kd.R_told (Kd.R_old (by (with_reducible repeat (first | apply Kd.R_alloc | apply Kd.R_drewN | apply Kd.R_drew)); exact aq.out) hb) (Kd.R_base ho0)) (Kd.R_base ho2)) (fun _ h_ => h_.1)); have n3_ := Aside0.mk (Kd.R_mono (Kd.R_told (Kd.R_told (Kd.R_old (by (with_reducible repeat (first | apply Kd.R_alloc | apply Kd.R_drewN | apply Kd.R_drew)); exact da.out) hb) (Kd.R_base ho0)) (Kd.R_base ho2)) (fun _ h_ => h_.1)); have n4_ := Aside0.mk (Kd.R_lower (Kd.R_new' (Kd.R_new' (Kd.R_new' ho0 (Kd.R_lt (by (with_reducible repeat (first | apply Kd.R_alloc | apply Kd.R_drewN | apply Kd.R_drew)); exact ap.out))) (Kd.R_lt (by (with_reducible repeat (first | apply Kd.R_alloc | apply Kd.R_drewN | apply Kd.R_drew)); exact aq.out))) (Kd.R_lt (by (with_reducible repeat (first | apply Kd.R_alloc | apply Kd.R_drewN | apply Kd.R_drew)); exact da.out))) (below_size (by repeat (first | (with_reducible first | exact HB.out | apply below_alloc | apply pw_below_drewN | apply below_drew1 | refine below_set ?_ ah.out | refine below_set ?_ ai.out | refine below_set ?_ ao.out) | exact HB.out)))); have n5_ := Aside0.mk (Kd.R_lower (Kd.R_new' ho1 (Kd.R_lt (by (with_reducible repeat (first | apply Kd.R_alloc | apply Kd.R_drewN | apply Kd.R_drew)); exact ar.out))) (below_size (by repeat (first | (with_reducible first | exact HB.out | apply below_alloc | apply pw_below_drewN | apply below_drew1 | refine below_set ?_ ah.out | refine below_set ?_ ai.out | refine below_set ?_ ao.out) | exact HB.out)))); have n6_ := Aside0.mk (Kd.R_lower (Kd.R_new' (Kd.R_new' (Kd.R_new' ho2 (Kd.R_lt (by (with_reducible repeat (first | apply Kd.R_alloc | apply Kd.R_drewN | apply Kd.R_drew)); exact ap.out))) (Kd.R_lt (by (with_reducible repeat (first | apply Kd.R_alloc | apply Kd.R_drewN | apply Kd.R_drew)); exact aq.out))) (Kd.R_lt (by (with_reducible repeat (first | apply Kd.R_alloc | apply Kd.R_drewN | apply Kd.R_drew)); exact da.out))) (below_size (by repeat (first | (with_reducible first | exact HB.out | apply below_alloc | apply pw_below_drewN | apply below_drew1 | refine below_set ?_ ah.out | refine below_set ?_ ai.out | refine below_set ?_ ao.out) | exact HB.out)))); have n7_ := Aside0.mk (ka4b4.q ac.out hb rfl); have n8_ := Aside0.mk (ka4b4.q ad.out hb rfl); have n9_ := Aside0.mk (ka4b4.q ae.out hb rfl); have n10_ := Aside0.mk (below_step (by repeat (first | (with_reducible first | exact HB.out | apply below_alloc | apply pw_below_drewN | apply below_drew1 | refine below_set ?_ ah.out | refine below_set ?_ ai.out | refine below_set ?_ ao.out) | exact HB.out)) hb); clear ap; clear ar; clear aq; clear da; clear ac; clear ad; clear ae; clear HB; have ap := n0_; have ar := n1_; have aq := n2_; have da := n3_; have b0 := n4_; have bt := n5_; have b1 := n6_; have ac := n7_; have ad := n8_; have ae := n9_; have HB := n10_; clear n0_ n1_ n2_ n3_ n4_ n5_ n6_ n7_ n8_ n9_ n10_; (try clear hb); (try clear dw); (try clear hk); (try clear hi); (try clear ho0); (try clear ho1); (try clear ho2)) | ((with_reducible refine gate_dst (N := 8) rfl ?_); refine box_event ?hg (N := 8) ?hd (cs := #[.int .i64 0, .int .i64 0, .int .i64 0, .slice none 0 0, .slice none 0 0, .int .i64 0, .slice none 0 0]) (t := 30) ?hr ?_; (case hd => rfl); (case hg => rfl); (case hr => first | (go_simp; done) | (go_simp; rfl)); intro ak hg w54 hbox hb; have n0_ := Aside0.mk (Kd.R_below (by (with_reducible repeat (first | apply Kd.R_alloc | apply Kd.R_drewN | apply Kd.R_drew)); exact ap.out) hb); have n1_ := Aside0.mk (Kd.R_below (by (with_reducible repeat (first | apply Kd.R_alloc | apply Kd.R_drewN | apply Kd.R_drew)); exact ar.out) hb); have n2_ := Aside0.mk (Kd.R_below (by (with_reducible repeat (first | apply Kd.R_alloc | apply Kd.R_drewN | apply Kd.R_drew)); exact aq.out) hb); have n3_ := Aside0.mk (Kd.R_below (by (with_reducible repeat (first | apply Kd.R_alloc | apply Kd.R_drewN | apply Kd.R_drew)); exact da.out) hb); have n4_ := Aside0.mk (Kd.R_below (by (with_reducible repeat (first | apply Kd.R_alloc | apply Kd.R_drewN | apply Kd.R_drew)); exact b0.out) hb); have n5_ := Aside0.mk (Kd.R_below (by (with_reducible repeat (first | apply Kd.R_alloc | apply Kd.R_drewN | apply Kd.R_drew)); exact bt.out) hb); have n6_ := Aside0.mk (Kd.R_below (by (with_reducible repeat (first | apply Kd.R_alloc | apply Kd.R_drewN | apply Kd.R_drew)); exact b1.out) hb); have n7_ := Aside0.mk (ka4b4.q ac.out hb rfl); have n8_ := Aside0.mk (ka4b4.q ad.out hb rfl); have n9_ := Aside0.mk (ka4b4.q ae.out hb rfl); have n10_ := Aside0.mk (below_step (by repeat (first | (with_reducible first | exact HB.out | apply below_alloc | apply pw_below_drewN | apply below_drew1 | refine below_set ?_ ah.out | refine below_set ?_ ai.out | refine below_set ?_ ao.out) | exact HB.out)) hb); have n11_ := Aside0.mk (hbox); have n12_ := Aside0.mk ((by rw [hg]; exact (below_size (by repeat (first | (with_reducible first | exact HB.out | apply below_alloc | apply pw_below_drewN | apply below_drew1 | refine below_set ?_ ah.out | refine below_set ?_ ai.out | refine below_set ?_ ao.out) | exact HB.out))) : w.heap.size ≤ ak)); have n13_ := Aside0.mk ((by rw [hg]; exact (below_size (by repeat (first | (with_reducible first | exact HB.out | apply below_alloc | apply pw_below_drewN | apply below_drew1 | refine below_set ?_ ah.out | refine below_set ?_ ai.out | refine below_set ?_ ao.out) | exact HB.out))) : w.heap.size ≤ ak)); have n14_ := Aside0.mk ((by rw [hg]; exact Nat.ne_of_lt (blk_lt (g := af) (o := .cells #[.int .i64 ax, .int .i64 ay, .int .i64 az, .slice bb au.length bc, .slice bd av.length be, .int .i64 ba, .slice bf aw.length bg] 30 (0, 0)) (by (with_reducible repeat (first | refine blk_drewN ?_ _ | refine blk_drew ?_ | refine blk_alloc ?_ _)); exact ac.out)) : af ≠ ak)); have n15_ := Aside0.mk ((by rw [hg]; exact Nat.ne_of_gt (blk_lt (g := af) (o := .cells #[.int .i64 ax, .int .i64 ay, .int .i64 az, .slice bb au.length bc, .slice bd av.length be, .int .i64 ba, .slice bf aw.length bg] 30 (0, 0)) (by (with_reducible repeat (first | refine blk_drewN ?_ _ | refine blk_drew ?_ | refine blk_alloc ?_ _)); exact ac.out)) : ak ≠ af)); have n16_ := Aside0.mk ((by rw [hg]; exact Nat.ne_of_lt (blk_lt (g := aj) (o := .cells #[.int .i64 bk, .int .i64 bl, .int .i64 bm, .slice bu bi.length bv, .slice bw bj.length bx, .bool bn, .slice b4 bh.length bz] 37 (0, 0)) (by (with_reducible repeat (first | refine blk_drewN ?_ _ | refine blk_drew ?_ | refine blk_alloc ?_ _)); exact ad.out)) : aj ≠ ak)); have n17_ := Aside0.mk ((by rw [hg]; exact Nat.ne_of_gt (blk_lt (g := aj) (o := .cells #[.int .i64 bk, .int .i64 bl, .int .i64 bm, .slice bu bi.length bv, .slice bw bj.length bx, .bool bn, .slice b4 bh.length bz] 37 (0, 0)) (by (with_reducible repeat (first | refine blk_drewN ?_ _ | refine blk_drew ?_ | refine blk_alloc ?_ _)); exact ad.out)) : ak ≠ aj)); have n18_ := Aside0.mk ((by rw [hg]; exact Nat.ne_of_lt (blk_lt (g := ab) (o := .cells #[.int .i64 t479, .int .i64 t480, .int .i64 t481, .slice bp t482.length bo, .slice di t485.length dh, .int .i64 t488, .slice bs t489.length br] 30 (0, 0)) (by (with_reducible repeat (first | refine blk_drewN ?_ _ | refine blk_drew ?_ | refine blk_alloc ?_ _)); exact ae.out)) : ab ≠ ak)); have n19_ := Aside0.mk ((by rw [hg]; exact Nat.ne_of_gt (blk_lt (g := ab) (o := .cells #[.int .i64 t479, .int .i64 t480, .int .i64 t481, .slice bp t482.length bo, .slice di t485.length dh, .int .i64 t488, .slice bs t489.length br] 30 (0, 0)) (by (with_reducible repeat (first | refine blk_drewN ?_ _ | refine blk_drew ?_ | refine blk_alloc ?_ _)); exact ae.out)) : ak ≠ ab)); clear ap; clear ar; clear aq; clear da; clear b0; clear bt; clear b1; clear ac; clear ad; clear ae; clear HB; have ap := n0_; have ar := n1_; have aq := n2_; have da := n3_; have b0 := n4_; have bt := n5_; have b1 := n6_; have ac := n7_; have ad := n8_; have ae := n9_; have HB := n10_; have am := n11_; have GW511 := n12_; have dm := n13_; have bq := n14_; have NB511_473 := n15_; have b5 := n16_; have NB511_474 := n17_; have b6 := n18_; have NB511_492 := n19_; clear n0_ n1_ n2_ n3_ n4_ n5_ n6_ n7_ n8_ n9_ n10_ n11_ n12_ n13_ n14_ n15_ n16_ n17_ n18_ n19_; clear hb hbox hg; have hnb55 := NB511_473.out; have hnc55 := bq.out; have hnb56 := NB511_474.out; have hnc56 := b5.out; have hnb57 := NB511_492.out; have hnc57 := b6.out; have hcz58_0 : w54.cell? ⟨ak, 0, none⟩ = some (.int .i64 0) := (blk_cell am.out 0).trans rfl; have hcz58_1 : w54.cell? ⟨ak, 1, none⟩ = some (.int .i64 0) := (blk_cell am.out 1).trans rfl; have hcz58_2 : w54.cell? ⟨ak, 2, none⟩ = some (.int .i64 0) := (blk_cell am.out 2).trans rfl; have hcz58_3 : w54.cell? ⟨ak, 3, none⟩ = some (.slice none 0 0) := (blk_cell am.out 3).trans rfl; have hcz58_4 : w54.cell? ⟨ak, 4, none⟩ = some (.slice none 0 0) := (blk_cell am.out 4).trans rfl; have hcz58_5 : w54.cell? ⟨ak, 5, none⟩ = some (.int .i64 0) := (blk_cell am.out 5).trans rfl; have hcz58_6 : w54.cell? ⟨ak, 6, none⟩ = some (.slice none 0 0) := (blk_cell am.out 6).trans rfl; have hfz58_0 := blk_frozen am.out 0; have hfz58_1 := blk_frozen am.out 1; have hfz58_2 := blk_frozen am.out 2; have hfz58_3 := blk_frozen am.out 3; have hfz58_4 := blk_frozen am.out 4; have hfz58_5 := blk_frozen am.out 5; have hfz58_6 := blk_frozen am.out 6; obtain ⟨b2, b3, eo59⟩ := Kd.R_slice b0.out; subst eo59; obtain ⟨dj, dk, eo60⟩ := Kd.R_slice bt.out; subst eo60; obtain ⟨b8, b9, eo61⟩ := Kd.R_slice b1.out; subst eo61) | ((with_reducible refine gate_store (t := 30) (p := 8) rfl ?_); refine store_event (t := 30) (p := 8) (v := ?vo_w62) (w1 := (((((((w54.setCell ⟨ak, 0, none⟩ (.int .i64 t497)).setCell ⟨ak, 1, none⟩ (.int .i64 t498)).setCell ⟨ak, 2, none⟩ (.int .i64 t499)).setCell ⟨ak, 3, none⟩ (.slice b2 t500.length b3)).setCell ⟨ak, 4, none⟩ (.slice dj t503.length dk)).setCell ⟨ak, 5, none⟩ (.int .i64 t506)).setCell ⟨ak, 6, none⟩ (.slice b8 t507.length b9))) ?hg ?ho ?hn ?hr ?_; (case ho => rfl); (case hg => rfl); (case hn => rfl); (case hr => first | (go_simp; done) | (go_simp; rfl)); intro w62 hw; have n0_ : Aside0 (Kd.R (Kd.int .i64) 3 w62 w.heap.size (fun k_ => some k_ ≠ (.slice bs t489.length br : Value).ownBlock ∧ some k_ ≠ (v495 : Value).ownBlock ∧ some k_ ≠ (.slice b2 t500.length b3 : Value).ownBlock ∧ some k_ ≠ (.slice b8 t507.length b9 : Value).ownBlock) (.slice bp t482.length bo) t482) := ⟨(by rw [hw]; exact (by (with_reducible repeat (first | apply Kd.R_alloc | apply Kd.R_drewN | apply Kd.R_drew)); exact Kd.R_mono (Kd.R_far (p := ⟨ak, 6, none⟩) (Kd.R_far (p := ⟨ak, 5, none⟩) (Kd.R_far (p := ⟨ak, 4, none⟩) (Kd.R_far (p := ⟨ak, 3, none⟩) (Kd.R_far (p := ⟨ak, 2, none⟩) (Kd.R_far (p := ⟨ak, 1, none⟩) (Kd.R_far (p := ⟨ak, 0, none⟩) (Kd.R_types ap.out am.out (by decide)) (fun _ hk => hk.2) (.int .i64 t497)) (fun _ hk => hk.2) (.int .i64 t498)) (fun _ hk => hk.2) (.int .i64 t499)) (fun _ hk => hk.2) (.slice b2 t500.length b3)) (fun _ hk => hk.2) (.slice dj t503.length dk)) (fun _ hk => hk.2) (.int .i64 t506)) (fun _ hk => hk.2) (.slice b8 t507.length b9)) (fun _ hk => ⟨hk.1.1.1.1, ⟨hk.1.1.1.2, ⟨hk.1.1.2, hk.1.2⟩⟩⟩)))⟩; have n1_ : Aside0 (Kd.R k63 63 w62 w.heap.size (fun k_ => some k_ ≠ (.slice dj t503.length dk : Value).ownBlock) (.slice di t485.length dh) t485) := ⟨(by rw [hw]; exact (by (with_reducible repeat (first | apply Kd.R_alloc | apply Kd.R_drewN | apply Kd.R_drew)); exact Kd.R_mono (Kd.R_far (p := ⟨ak, 6, none⟩) (Kd.R_far (p := ⟨ak, 5, none⟩) (Kd.R_far (p := ⟨ak, 4, none⟩) (Kd.R_far (p := ⟨ak, 3, none⟩) (Kd.R_far (p := ⟨ak, 2, none⟩) (Kd.R_far (p := ⟨ak, 1, none⟩) (Kd.R_far (p := ⟨ak, 0, none⟩) (Kd.R_types ar.out am.out (by decide)) (fun _ hk => hk.2) (.int .i64 t497)) (fun _ hk => hk.2) (.int .i64 t498)) (fun _ hk => hk.2) (.int .i64 t499)) (fun _ hk => hk.2) (.slice b2 t500.length b3)) (fun _ hk => hk.2) (.slice dj t503.length dk)) (fun _ hk => hk.2) (.int .i64 t506)) (fun _ hk => hk.2) (.slice b8 t507.length b9)) (fun _ hk => hk.1.2)))⟩; have n2_ : Aside0 (Kd.R (Kd.int .i64) 3 w62 w.heap.size (fun k_ => some k_ ≠ (.slice bp t482.length bo : Value).ownBlock ∧ some k_ ≠ (v495 : Value).ownBlock ∧ some k_ ≠ (.slice b2 t500.length b3 : Value).ownBlock ∧ some k_ ≠ (.slice b8 t507.length b9 : Value).ownBlock) (.slice bs t489.length br) t489) := ⟨(by rw [hw]; exact (by (with_reducible repeat (first | apply Kd.R_alloc | apply Kd.R_drewN | apply Kd.R_drew)); exact Kd.R_mono (Kd.R_far (p := ⟨ak, 6, none⟩) (Kd.R_far (p := ⟨ak, 5, none⟩) (Kd.R_far (p := ⟨ak, 4, none⟩) (Kd.R_far (p := ⟨ak, 3, none⟩) (Kd.R_far (p := ⟨ak, 2, none⟩) (Kd.R_far (p := ⟨ak, 1, none⟩) (Kd.R_far (p := ⟨ak, 0, none⟩) (Kd.R_types aq.out am.out (by decide)) (fun _ hk => hk.2) (.int .i64 t497)) (fun _ hk => hk.2) (.int .i64 t498)) (fun _ hk => hk.2) (.int .i64 t499)) (fun _ hk => hk.2) (.slice b2 t500.length b3)) (fun _ hk => hk.2) (.slice dj t503.length dk)) (fun _ hk => hk.2) (.int .i64 t506)) (fun _ hk => hk.2) (.slice b8 t507.length b9)) (fun _ hk => ⟨hk.1.1.1.1, ⟨hk.1.1.1.2, ⟨hk.1.1.2, hk.1.2⟩⟩⟩)))⟩; have n3_ : Aside0 (Kd.R (Kd.int .i64) 3 w62 w.heap.size (fun k_ => some k_ ≠ (.slice bp t482.length bo : Value).ownBlock ∧ some k_ ≠ (.slice bs t489.length br : Value).ownBlock ∧ some k_ ≠ (.slice b2 t500.length b3 : Value).ownBlock ∧ some k_ ≠ (.slice b8 t507.length b9 : Value).ownBlock) v495 dp) := ⟨(by rw [hw]; exact (by (with_reducible repeat (first | apply Kd.R_alloc | apply Kd.R_drewN | apply Kd.R_drew)); exact Kd.R_mono (Kd.R_far (p := ⟨ak, 6, none⟩) (Kd.R_far (p := ⟨ak, 5, none⟩) (Kd.R_far (p := ⟨ak, 4, none⟩) (Kd.R_far (p := ⟨ak, 3, none⟩) (Kd.R_far (p := ⟨ak, 2, none⟩) (Kd.R_far (p := ⟨ak, 1, none⟩) (Kd.R_far (p := ⟨ak, 0, none⟩) (Kd.R_types da.out am.out (by decide)) (fun _ hk => hk.2) (.int .i64 t497)) (fun _ hk => hk.2) (.int .i64 t498)) (fun _ hk => hk.2) (.int .i64 t499)) (fun _ hk => hk.2) (.slice b2 t500.length b3)) (fun _ hk => hk.2) (.slice dj t503.length dk)) (fun _ hk => hk.2) (.int .i64 t506)) (fun _ hk => hk.2) (.slice b8 t507.length b9)) (fun _ hk => ⟨hk.1.1.1.1, ⟨hk.1.1.1.2, ⟨hk.1.1.2, hk.1.2⟩⟩⟩)))⟩; have n4_ : Aside0 (Kd.R (Kd.int .i64) 3 w62 w.heap.size (fun k_ => some k_ ≠ (.slice bp t482.length bo : Value).ownBlock ∧ some k_ ≠ (.slice bs t489.length br : Value).ownBlock ∧ some k_ ≠ (v495 : Value).ownBlock ∧ some k_ ≠ (.slice b8 t507.length b9 : Value).ownBlock) (.slice b2 t500.length b3) t500) := ⟨(by rw [hw]; exact (by (with_reducible repeat (first | apply Kd.R_alloc | apply Kd.R_drewN | apply Kd.R_drew)); exact Kd.R_mono (Kd.R_far (p := ⟨ak, 6, none⟩) (Kd.R_far (p := ⟨ak, 5, none⟩) (Kd.R_far (p := ⟨ak, 4, none⟩) (Kd.R_far (p := ⟨ak, 3, none⟩) (Kd.R_far (p := ⟨ak, 2, none⟩) (Kd.R_far (p := ⟨ak, 1, none⟩) (Kd.R_far (p := ⟨ak, 0, none⟩) (Kd.R_types b0.out am.out (by decide)) (fun _ hk => hk.2) (.int .i64 t497)) (fun _ hk => hk.2) (.int .i64 t498)) (fun _ hk => hk.2) (.int .i64 t499)) (fun _ hk => hk.2) (.slice b2 t500.length b3)) (fun _ hk => hk.2) (.slice dj t503.length dk)) (fun _ hk => hk.2) (.int .i64 t506)) (fun _ hk => hk.2) (.slice b8 t507.length b9)) (fun _ hk => ⟨hk.1.1.1.2, ⟨hk.1.1.2, ⟨hk.1.2, hk.1.1.1.1⟩⟩⟩)))⟩; have n5_ : Aside0 (Kd.R k63 63 w62 w.heap.size (fun k_ => some k_ ≠ (.slice di t485.length dh : Value).ownBlock) (.slice dj t503.length dk) t503) := ⟨(by rw [hw]; exact (by (with_reducible repeat (first | apply Kd.R_alloc | apply Kd.R_drewN | apply Kd.R_drew)); exact Kd.R_mono (Kd.R_far (p := ⟨ak, 6, none⟩) (Kd.R_far (p := ⟨ak, 5, none⟩) (Kd.R_far (p := ⟨ak, 4, none⟩) (Kd.R_far (p := ⟨ak, 3, none⟩) (Kd.R_far (p := ⟨ak, 2, none⟩) (Kd.R_far (p := ⟨ak, 1, none⟩) (Kd.R_far (p := ⟨ak, 0, none⟩) (Kd.R_types bt.out am.out (by decide)) (fun _ hk => hk.2) (.int .i64 t497)) (fun _ hk => hk.2) (.int .i64 t498)) (fun _ hk => hk.2) (.int .i64 t499)) (fun _ hk => hk.2) (.slice b2 t500.length b3)) (fun _ hk => hk.2) (.slice dj t503.length dk)) (fun _ hk => hk.2) (.int .i64 t506)) (fun _ hk => hk.2) (.slice b8 t507.length b9)) (fun _ hk => hk.1.2)))⟩; have n6_ : Aside0 (Kd.R (Kd.int .i64) 3 w62 w.heap.size (fun k_ => some k_ ≠ (.slice bp t482.length bo : Value).ownBlock ∧ some k_ ≠ (.slice bs t489.length br : Value).ownBlock ∧ some k_ ≠ (v495 : Value).ownBlock ∧ some k_ ≠ (.slice b2 t500.length b3 : Value).ownBlock) (.slice b8 t507.length b9) t507) := ⟨(by rw [hw]; exact (by (with_reducible repeat (first | apply Kd.R_alloc | apply Kd.R_drewN | apply Kd.R_drew)); exact Kd.R_mono (Kd.R_far (p := ⟨ak, 6, none⟩) (Kd.R_far (p := ⟨ak, 5, none⟩) (Kd.R_far (p := ⟨ak, 4, none⟩) (Kd.R_far (p := ⟨ak, 3, none⟩) (Kd.R_far (p := ⟨ak, 2, none⟩) (Kd.R_far (p := ⟨ak, 1, none⟩) (Kd.R_far (p := ⟨ak, 0, none⟩) (Kd.R_types b1.out am.out (by decide)) (fun _ hk => hk.2) (.int .i64 t497)) (fun _ hk => hk.2) (.int .i64 t498)) (fun _ hk => hk.2) (.int .i64 t499)) (fun _ hk => hk.2) (.slice b2 t500.length b3)) (fun _ hk => hk.2) (.slice dj t503.length dk)) (fun _ hk => hk.2) (.int .i64 t506)) (fun _ hk => hk.2) (.slice b8 t507.length b9)) (fun _ hk => ⟨hk.1.1.1.2, ⟨hk.1.1.2, ⟨hk.1.2, hk.1.1.1.1⟩⟩⟩)))⟩; have n7_ : Aside0 (w62.heap[af]? = some (.cells #[.int .i64 ax, .int .i64 ay, .int .i64 az, .slice bb au.length bc, .slice bd av.length be, .int .i64 ba, .slice bf aw.length bg] 30 (0, 0))) := ⟨(by rw [hw]; exact (by (with_reducible repeat (first | refine blk_drewN ?_ _ | refine blk_drew ?_ | refine blk_alloc ?_ _)); refine blk_far ?_ bq.out _; (with_reducible repeat (first | refine blk_drewN ?_ _ | refine blk_drew ?_ | refine blk_alloc ?_ _)); refine blk_far ?_ bq.out _; (with_reducible repeat (first | refine blk_drewN ?_ _ | refine blk_drew ?_ | refine blk_alloc ?_ _)); refine blk_far ?_ bq.out _; (with_reducible repeat (first | refine blk_drewN ?_ _ | refine blk_drew ?_ | refine blk_alloc ?_ _)); refine blk_far ?_ bq.out _; (with_reducible repeat (first | refine blk_drewN ?_ _ | refine blk_drew ?_ | refine blk_alloc ?_ _)); refine blk_far ?_ bq.out _; (with_reducible repeat (first | refine blk_drewN ?_ _ | refine blk_drew ?_ | refine blk_alloc ?_ _)); refine blk_far ?_ bq.out _; (with_reducible repeat (first | refine blk_drewN ?_ _ | refine blk_drew ?_ | refine blk_alloc ?_ _)); refine blk_far ?_ bq.out _; (with_reducible repeat (first | refine blk_drewN ?_ _ | refine blk_drew ?_ | refine blk_alloc ?_ _)); exact ac.out))⟩; have n8_ : Aside0 (w62.heap[aj]? = some (.cells #[.int .i64 bk, .int .i64 bl, .int .i64 bm, .slice bu bi.length bv, .slice bw bj.length bx, .bool bn, .slice b4 bh.length bz] 37 (0, 0))) := ⟨(by rw [hw]; exact (by (with_reducible repeat (first | refine blk_drewN ?_ _ | refine blk_drew ?_ | refine blk_alloc ?_ _)); refine blk_far ?_ b5.out _; (with_reducible repeat (first | refine blk_drewN ?_ _ | refine blk_drew ?_ | refine blk_alloc ?_ _)); refine blk_far ?_ b5.out _; (with_reducible repeat (first | refine blk_drewN ?_ _ | refine blk_drew ?_ | refine blk_alloc ?_ _)); refine blk_far ?_ b5.out _; (with_reducible repeat (first | refine blk_drewN ?_ _ | refine blk_drew ?_ | refine blk_alloc ?_ _)); refine blk_far ?_ b5.out _; (with_reducible repeat (first | refine blk_drewN ?_ _ | refine blk_drew ?_ | refine blk_alloc ?_ _)); refine blk_far ?_ b5.out _; (with_reducible repeat (first | refine blk_drewN ?_ _ | refine blk_drew ?_ | refine blk_alloc ?_ _)); refine blk_far ?_ b5.out _; (with_reducible repeat (first | refine blk_drewN ?_ _ | refine blk_drew ?_ | refine blk_alloc ?_ _)); refine blk_far ?_ b5.out _; (with_reducible repeat (first | refine blk_drewN ?_ _ | refine blk_drew ?_ | refine blk_alloc ?_ _)); exact ad.out))⟩; have n9_ : Aside0 (w62.heap[ab]? = some (.cells #[.int .i64 t479, .int .i64 t480, .int .i64 t481, .slice bp t482.length bo, .slice di t485.length dh, .int .i64 t488, .slice bs t489.length br] 30 (0, 0))) := ⟨(by rw [hw]; exact (by (with_reducible repeat (first | refine blk_drewN ?_ _ | refine blk_drew ?_ | refine blk_alloc ?_ _)); refine blk_far ?_ b6.out _; (with_reducible repeat (first | refine blk_drewN ?_ _ | refine blk_drew ?_ | refine blk_alloc ?_ _)); refine blk_far ?_ b6.out _; (with_reducible repeat (first | refine blk_drewN ?_ _ | refine blk_drew ?_ | refine blk_alloc ?_ _)); refine blk_far ?_ b6.out _; (with_reducible repeat (first | refine blk_drewN ?_ _ | refine blk_drew ?_ | refine blk_alloc ?_ _)); refine blk_far ?_ b6.out _; (with_reducible repeat (first | refine blk_drewN ?_ _ | refine blk_drew ?_ | refine blk_alloc ?_ _)); refine blk_far ?_ b6.out _; (with_reducible repeat (first | refine blk_drewN ?_ _ | refine blk_drew ?_ | refine blk_alloc ?_ _)); refine blk_far ?_ b6.out _; (with_reducible repeat (first | refine blk_drewN ?_ _ | refine blk_drew ?_ | refine blk_alloc ?_ _)); refine blk_far ?_ b6.out _; (with_reducible repeat (first | refine blk_drewN ?_ _ | refine blk_drew ?_ | refine blk_alloc ?_ _)); exact ae.out))⟩; have n10_ : Aside0 (w62.heap[ak]? = some (.cells #[.int .i64 t497, .int .i64 t498, .int .i64 t499, .slice b2 t500.length b3, .slice dj t503.length dk, .int .i64 t506, .slice b8 t507.length b9] 30 (0, 0))) := ⟨(by rw [hw]; exact (by (with_reducible repeat (first | refine blk_drewN ?_ _ | refine blk_drew ?_ | refine blk_alloc ?_ _)); refine blk_put (cs := #[.int .i64 t497, .int .i64 t498, .int .i64 t499, .slice b2 t500.length b3, .slice dj t503.length dk, .int .i64 t506, .slice none 0 0]) ?_ 6 _ rfl; (with_reducible repeat (first | refine blk_drewN ?_ _ | refine blk_drew ?_ | refine blk_alloc ?_ _)); refine blk_put (cs := #[.int .i64 t497, .int .i64 t498, .int .i64 t499, .slice b2 t500.length b3, .slice dj t503.length dk, .int .i64 0, .slice none 0 0]) ?_ 5 _ rfl; (with_reducible repeat (first | refine blk_drewN ?_ _ | refine blk_drew ?_ | refine blk_alloc ?_ _)); refine blk_put (cs := #[.int .i64 t497, .int .i64 t498, .int .i64 t499, .slice b2 t500.length b3, .slice none 0 0, .int .i64 0, .slice none 0 0]) ?_ 4 _ rfl; (with_reducible repeat (first | refine blk_drewN ?_ _ | refine blk_drew ?_ | refine blk_alloc ?_ _)); refine blk_put (cs := #[.int .i64 t497, .int .i64 t498, .int .i64 t499, .slice none 0 0, .slice none 0 0, .int .i64 0, .slice none 0 0]) ?_ 3 _ rfl; (with_reducible repeat (first | refine blk_drewN ?_ _ | refine blk_drew ?_ | refine blk_alloc ?_ _)); refine blk_put (cs := #[.int .i64 t497, .int .i64 t498, .int .i64 0, .slice none 0 0, .slice none 0 0, .int .i64 0, .slice none 0 0]) ?_ 2 _ rfl; (with_reducible repeat (first | refine blk_drewN ?_ _ | refine blk_drew ?_ | refine blk_alloc ?_ _)); refine blk_put (cs := #[.int .i64 t497, .int .i64 0, .int .i64 0, .slice none 0 0, .slice none 0 0, .int .i64 0, .slice none 0 0]) ?_ 1 _ rfl; (with_reducible repeat (first | refine blk_drewN ?_ _ | refine blk_drew ?_ | refine blk_alloc ?_ _)); refine blk_put (cs := #[.int .i64 0, .int .i64 0, .int .i64 0, .slice none 0 0, .slice none 0 0, .int .i64 0, .slice none 0 0]) ?_ 0 _ rfl; (with_reducible repeat (first | refine blk_drewN ?_ _ | refine blk_drew ?_ | refine blk_alloc ?_ _)); exact am.out))⟩; have n11_ : Aside0 (Below w.heap.size w w62) := ⟨(by rw [hw]; exact (by repeat (first | (with_reducible first | exact HB.out | apply below_alloc | apply pw_below_drewN | apply below_drew1 | refine below_set ?_ ah.out | refine below_set ?_ ai.out | refine below_set ?_ ao.out | refine below_set ?_ dm.out) | exact HB.out)))⟩; clear hw; clear ap; clear ar; clear aq; clear da; clear b0; clear bt; clear b1; clear ac; clear ad; clear ae; clear am; clear HB; have ap := n0_; have ar := n1_; have aq := n2_; have da := n3_; have b0 := n4_; have bt := n5_; have b1 := n6_; have ac := n7_; have ad := n8_; have ae := n9_; have am := n10_; have HB := n11_; clear n0_ n1_ n2_ n3_ n4_ n5_ n6_ n7_ n8_ n9_ n10_ n11_; have hcz63_0 : w62.cell? ⟨ab, 0, none⟩ = some (.int .i64 t479) := (blk_cell ae.out 0).trans rfl; have hcz63_1 : w62.cell? ⟨ab, 1, none⟩ = some (.int .i64 t480) := (blk_cell ae.out 1).trans rfl; have hcz63_2 : w62.cell? ⟨ab, 2, none⟩ = some (.int .i64 t481) := (blk_cell ae.out 2).trans rfl; have hcz63_3 : w62.cell? ⟨ab, 3, none⟩ = some (.slice bp t482.length bo) := (blk_cell ae.out 3).trans rfl; have hcz63_4 : w62.cell? ⟨ab, 4, none⟩ = some (.slice di t485.length dh) := (blk_cell ae.out 4).trans rfl; have hcz63_5 : w62.cell? ⟨ab, 5, none⟩ = some (.int .i64 t488) := (blk_cell ae.out 5).trans rfl; have hcz63_6 : w62.cell? ⟨ab, 6, none⟩ = some (.slice bs t489.length br) := (blk_cell ae.out 6).trans rfl; have hfz63_0 := blk_frozen ae.out 0; have hfz63_1 := blk_frozen ae.out 1; have hfz63_2 := blk_frozen ae.out 2; have hfz63_3 := blk_frozen ae.out 3; have hfz63_4 := blk_frozen ae.out 4; have hfz63_5 := blk_frozen ae.out 5; have hfz63_6 := blk_frozen ae.out 6) | ((with_reducible refine gate_callee (f := 26) rfl ?_); refine goesL_ (some 39) rfl rfl Try.func26 (by kernel_rfl) rfl #[.agg #[.int .i64 t479, .int .i64 t480, .int .i64 t481, .slice bp t482.length bo, .slice di t485.length dh, .int .i64 t488, .slice bs t489.length br]] rfl (by (try simp only [List.map_toArray, List.map_cons, List.map_nil]); first | done | rfl) ?_; (with_reducible refine (whirligiglaw09_spoil.calls dx t479 t480 t481 (fun k_ => some k_ = (.slice bp t482.length bo : Value).ownBlock) (.slice bp t482.length bo) t482 (fun k_ => some k_ = (.slice di t485.length dh : Value).ownBlock) (.slice di t485.length dh) t485 t488 (fun k_ => some k_ = (.slice bs t489.length br : Value).ownBlock) (.slice bs t489.length br) t489 t512 t513 t514 w _ ?side1 ?side2 ?side3 ?side4 ?side5 ?side6 A26.out).mono ?_); (case side1 => repeat (first | (with_reducible first | exact HB.out | apply below_alloc | apply pw_below_drewN | apply below_drew1 | refine below_set ?_ ah.out | refine below_set ?_ ai.out | refine below_set ?_ ao.out | refine below_set ?_ dm.out) | exact HB.out)); (case side2 | side4 | side5 => first | exact Kd.R_tight rfl ap.out | exact Kd.R_tight rfl ar.out | exact Kd.R_tight rfl aq.out); (case side3 => exact fun k_ e_ => (ap.out.1 k_ e_.symm).1); (case side6 => exact fun k_ e_ => (aq.out.1 k_ e_.symm).1); rintro e w64 ⟨rfl, hy0, hy1, hy2, hb, hkp⟩; refine ⟨_, rfl, ?_⟩; have n0_ := Aside0.mk (blk_kept (by (with_reducible repeat (first | refine blk_drewN ?_ _ | refine blk_drew ?_ | refine blk_alloc ?_ _)); exact ac.out) hkp (fun hs_ => Or.elim hs_ (fun e_ => (fun e_ => (Kd.R_ne ap.out ac.out (by decide)) e_) e_) (fun e_ => Or.elim e_ (fun e_ => (fun e_ => (Kd.R_ne ar.out ac.out (by decide)) e_) e_) (fun e_ => (fun e_ => (Kd.R_ne aq.out ac.out (by decide)) e_) e_)))); have n1_ := Aside0.mk (blk_kept (by (with_reducible repeat (first | refine blk_drewN ?_ _ | refine blk_drew ?_ | refine blk_alloc ?_ _)); exact ad.out) hkp (fun hs_ => Or.elim hs_ (fun e_ => (fun e_ => (Kd.R_ne ap.out ad.out (by decide)) e_) e_) (fun e_ => Or.elim e_ (fun e_ => (fun e_ => (Kd.R_ne ar.out ad.out (by decide)) e_) e_) (fun e_ => (fun e_ => (Kd.R_ne aq.out ad.out (by decide)) e_) e_)))); have n2_ := Aside0.mk (Kd.R_reok rfl hy0 (fun k_ e_ => ap.out.1 k_ e_)); have n3_ := Aside0.mk (Kd.R_reok rfl hy1 (fun k_ e_ => ar.out.1 k_ e_)); have n4_ := Aside0.mk (Kd.R_reok rfl hy2 (fun k_ e_ => aq.out.1 k_ e_)); have n5_ := Aside0.mk (blk_kept (by (with_reducible repeat (first | refine blk_drewN ?_ _ | refine blk_drew ?_ | refine blk_alloc ?_ _)); exact ae.out) hkp (fun hs_ => Or.elim hs_ (fun e_ => (fun e_ => (Kd.R_ne ap.out ae.out (by decide)) e_) e_) (fun e_ => Or.elim e_ (fun e_ => (fun e_ => (Kd.R_ne ar.out ae.out (by decide)) e_) e_) (fun e_ => (fun e_ => (Kd.R_ne aq.out ae.out (by decide)) e_) e_)))); have n6_ := Aside0.mk (Kd.R_mono (ok' := fun k_ => some k_ ≠ (.slice bp t482.length bo : Value).ownBlock ∧ some k_ ≠ (.slice bs t489.length br : Value).ownBlock ∧ some k_ ≠ (.slice b2 t500.length b3 : Value).ownBlock ∧ some k_ ≠ (.slice b8 t507.length b9 : Value).ownBlock) (Kd.R_keptB ((Kd.R_apart' da.out (Kd.R_typed ar.out) (by decide))) hkp (fun k_ hk_ hs_ => Or.elim hs_ (fun e_ => (hk_.1.1) e_) (fun e_ => Or.elim e_ (fun e_ => (hk_.2) e_) (fun e_ => (hk_.1.2.1) e_)))) (fun k_ hk_ => ⟨hk_.1.1.1, hk_.1.1.2.1, hk_.1.1.2.2.1, hk_.1.1.2.2.2⟩)); have n7_ := Aside0.mk (Kd.R_mono (ok' := fun k_ => some k_ ≠ (.slice bp t482.length bo : Value).ownBlock ∧ some k_ ≠ (.slice bs t489.length br : Value).ownBlock ∧ some k_ ≠ (v495 : Value).ownBlock ∧ some k_ ≠ (.slice b8 t507.length b9 : Value).ownBlock) (Kd.R_keptB ((Kd.R_apart' b0.out (Kd.R_typed ar.out) (by decide))) hkp (fun k_ hk_ hs_ => Or.elim hs_ (fun e_ => (hk_.1.1) e_) (fun e_ => Or.elim e_ (fun e_ => (hk_.2) e_) (fun e_ => (hk_.1.2.1) e_)))) (fun k_ hk_ => ⟨hk_.1.1.1, hk_.1.1.2.1, hk_.1.1.2.2.1, hk_.1.1.2.2.2⟩)); have n8_ := Aside0.mk (Kd.R_mono (ok' := fun k_ => some k_ ≠ (.slice di t485.length dh : Value).ownBlock) (Kd.R_keptB ((Kd.R_apart' (Kd.R_apart' bt.out (Kd.R_typed ap.out) (by decide)) (Kd.R_typed aq.out) (by decide))) hkp (fun k_ hk_ hs_ => Or.elim hs_ (fun e_ => (hk_.1.2) e_) (fun e_ => Or.elim e_ (fun e_ => (hk_.1.1) e_) (fun e_ => (hk_.2) e_)))) (fun k_ hk_ => hk_.1.1.1)); have n9_ := Aside0.mk (Kd.R_mono (ok' := fun k_ => some k_ ≠ (.slice bp t482.length bo : Value).ownBlock ∧ some k_ ≠ (.slice bs t489.length br : Value).ownBlock ∧ some k_ ≠ (v495 : Value).ownBlock ∧ some k_ ≠ (.slice b2 t500.length b3 : Value).ownBlock) (Kd.R_keptB ((Kd.R_apart' b1.out (Kd.R_typed ar.out) (by decide))) hkp (fun k_ hk_ hs_ => Or.elim hs_ (fun e_ => (hk_.1.1) e_) (fun e_ => Or.elim e_ (fun e_ => (hk_.2) e_) (fun e_ => (hk_.1.2.1) e_)))) (fun k_ hk_ => ⟨hk_.1.1.1, hk_.1.1.2.1, hk_.1.1.2.2.1, hk_.1.1.2.2.2⟩)); have n10_ := Aside0.mk (blk_kept (by (with_reducible repeat (first | refine blk_drewN ?_ _ | refine blk_drew ?_ | refine blk_alloc ?_ _)); exact am.out) hkp (fun hs_ => Or.elim hs_ (fun e_ => (fun e_ => (Kd.R_ne ap.out am.out (by decide)) e_) e_) (fun e_ => Or.elim e_ (fun e_ => (fun e_ => (Kd.R_ne ar.out am.out (by decide)) e_) e_) (fun e_ => (fun e_ => (Kd.R_ne aq.out am.out (by decide)) e_) e_)))); have n11_ := Aside0.mk (hb); clear ac; clear ad; clear ap; clear ar; clear aq; clear ae; clear da; clear b0; clear bt; clear b1; clear am; clear HB; have ac := n0_; have ad := n1_; have ap := n2_; have ar := n3_; have aq := n4_; have ae := n5_; have da := n6_; have b0 := n7_; have bt := n8_; have b1 := n9_; have am := n10_; have HB := n11_; clear n0_ n1_ n2_ n3_ n4_ n5_ n6_ n7_ n8_ n9_ n10_ n11_; (try clear hb); (try clear hkp); (try clear hy0); (try clear hy1); (try clear hy2); have hcz65_0 : w64.cell? ⟨ak, 0, none⟩ = some (.int .i64 t497) := (blk_cell am.out 0).trans rfl; have hcz65_1 : w64.cell? ⟨ak, 1, none⟩ = some (.int .i64 t498) := (blk_cell am.out 1).trans rfl; have hcz65_2 : w64.cell? ⟨ak, 2, none⟩ = some (.int .i64 t499) := (blk_cell am.out 2).trans rfl; have hcz65_3 : w64.cell? ⟨ak, 3, none⟩ = some (.slice b2 t500.length b3) := (blk_cell am.out 3).trans rfl; have hcz65_4 : w64.cell? ⟨ak, 4, none⟩ = some (.slice dj t503.length dk) := (blk_cell am.out 4).trans rfl; have hcz65_5 : w64.cell? ⟨ak, 5, none⟩ = some (.int .i64 t506) := (blk_cell am.out 5).trans rfl; have hcz65_6 : w64.cell? ⟨ak, 6, none⟩ = some (.slice b8 t507.length b9) := (blk_cell am.out 6).trans rfl; have hfz65_0 := blk_frozen am.out 0; have hfz65_1 := blk_frozen am.out 1; have hfz65_2 := blk_frozen am.out 2; have hfz65_3 := blk_frozen am.out 3; have hfz65_4 := blk_frozen am.out 4; have hfz65_5 := blk_frozen am.out 5; have hfz65_6 := blk_frozen am.out 6) | ((with_reducible refine gate_callee (f := 26) rfl ?_); refine goesL_ (some 41) rfl rfl Try.func26 (by kernel_rfl) rfl #[.agg #[.int .i64 t497, .int .i64 t498, .int .i64 t499, .slice b2 t500.length b3, .slice dj t503.length dk, .int .i64 t506, .slice b8 t507.length b9]] rfl (by (try simp only [List.map_toArray, List.map_cons, List.map_nil]); first | done | rfl) ?_; (with_reducible refine (whirligiglaw09_spoil.calls dx t497 t498 t499 (fun k_ => some k_ = (.slice b2 t500.length b3 : Value).ownBlock) (.slice b2 t500.length b3) t500 (fun k_ => some k_ = (.slice dj t503.length dk : Value).ownBlock) (.slice dj t503.length dk) t503 t506 (fun k_ => some k_ = (.slice b8 t507.length b9 : Value).ownBlock) (.slice b8 t507.length b9) t507 t515 t516 t517 w _ ?side1 ?side2 ?side3 ?side4 ?side5 ?side6 A27.out).mono ?_); (case side1 => repeat (first | (with_reducible first | exact HB.out | apply below_alloc | apply pw_below_drewN | apply below_drew1 | refine below_set ?_ ah.out | refine below_set ?_ ai.out | refine below_set ?_ ao.out | refine below_set ?_ dm.out) | exact HB.out)); (case side2 | side4 | side5 => first | exact Kd.R_tight rfl b0.out | exact Kd.R_tight rfl bt.out | exact Kd.R_tight rfl b1.out); (case side3 => exact fun k_ e_ => (b0.out.1 k_ e_.symm).2.2.2); (case side6 => exact fun k_ e_ => (b1.out.1 k_ e_.symm).2.2.2); rintro e w66 ⟨rfl, hy0, hy1, hy2, hb, hkp⟩; refine ⟨_, rfl, ?_⟩; have n0_ := Aside0.mk (blk_kept (by (with_reducible repeat (first | refine blk_drewN ?_ _ | refine blk_drew ?_ | refine blk_alloc ?_ _)); exact ac.out) hkp (fun hs_ => Or.elim hs_ (fun e_ => (fun e_ => (Kd.R_ne b0.out ac.out (by decide)) e_) e_) (fun e_ => Or.elim e_ (fun e_ => (fun e_ => (Kd.R_ne bt.out ac.out (by decide)) e_) e_) (fun e_ => (fun e_ => (Kd.R_ne b1.out ac.out (by decide)) e_) e_)))); have n1_ := Aside0.mk (blk_kept (by (with_reducible repeat (first | refine blk_drewN ?_ _ | refine blk_drew ?_ | refine blk_alloc ?_ _)); exact ad.out) hkp (fun hs_ => Or.elim hs_ (fun e_ => (fun e_ => (Kd.R_ne b0.out ad.out (by decide)) e_) e_) (fun e_ => Or.elim e_ (fun e_ => (fun e_ => (Kd.R_ne bt.out ad.out (by decide)) e_) e_) (fun e_ => (fun e_ => (Kd.R_ne b1.out ad.out (by decide)) e_) e_)))); have n2_ := Aside0.mk (Kd.R_mono (ok' := fun k_ => some k_ ≠ (.slice bs t489.length br : Value).ownBlock ∧ some k_ ≠ (v495 : Value).ownBlock ∧ some k_ ≠ (.slice b2 t500.length b3 : Value).ownBlock ∧ some k_ ≠ (.slice b8 t507.length b9 : Value).ownBlock) (Kd.R_keptB ((Kd.R_apart' ap.out (Kd.R_typed bt.out) (by decide))) hkp (fun k_ hk_ hs_ => Or.elim hs_ (fun e_ => (hk_.1.2.2.1) e_) (fun e_ => Or.elim e_ (fun e_ => (hk_.2) e_) (fun e_ => (hk_.1.2.2.2) e_)))) (fun k_ hk_ => ⟨hk_.1.1.1, hk_.1.1.2.1, hk_.1.1.2.2.1, hk_.1.1.2.2.2⟩)); have n3_ := Aside0.mk (Kd.R_mono (ok' := fun k_ => some k_ ≠ (.slice dj t503.length dk : Value).ownBlock) (Kd.R_keptB ((Kd.R_apart' (Kd.R_apart' ar.out (Kd.R_typed b0.out) (by decide)) (Kd.R_typed b1.out) (by decide))) hkp (fun k_ hk_ hs_ => Or.elim hs_ (fun e_ => (hk_.1.2) e_) (fun e_ => Or.elim e_ (fun e_ => (hk_.1.1) e_) (fun e_ => (hk_.2) e_)))) (fun k_ hk_ => hk_.1.1.1)); have n4_ := Aside0.mk (Kd.R_mono (ok' := fun k_ => some k_ ≠ (.slice bp t482.length bo : Value).ownBlock ∧ some k_ ≠ (v495 : Value).ownBlock ∧ some k_ ≠ (.slice b2 t500.length b3 : Value).ownBlock ∧ some k_ ≠ (.slice b8 t507.length b9 : Value).ownBlock) (Kd.R_keptB ((Kd.R_apart' aq.out (Kd.R_typed bt.out) (by decide))) hkp (fun k_ hk_ hs_ => Or.elim hs_ (fun e_ => (hk_.1.2.2.1) e_) (fun e_ => Or.elim e_ (fun e_ => (hk_.2) e_) (fun e_ => (hk_.1.2.2.2) e_)))) (fun k_ hk_ => ⟨hk_.1.1.1, hk_.1.1.2.1, hk_.1.1.2.2.1, hk_.1.1.2.2.2⟩)); have n5_ := Aside0.mk (blk_kept (by (with_reducible repeat (first | refine blk_drewN ?_ _ | refine blk_drew ?_ | refine blk_alloc ?_ _)); exact ae.out) hkp (fun hs_ => Or.elim hs_ (fun e_ => (fun e_ => (Kd.R_ne b0.out ae.out (by decide)) e_) e_) (fun e_ => Or.elim e_ (fun e_ => (fun e_ => (Kd.R_ne bt.out ae.out (by decide)) e_) e_) (fun e_ => (fun e_ => (Kd.R_ne b1.out ae.out (by decide)) e_) e_)))); have n6_ := Aside0.mk (Kd.R_mono (ok' := fun k_ => some k_ ≠ (.slice bp t482.length bo : Value).ownBlock ∧ some k_ ≠ (.slice bs t489.length br : Value).ownBlock ∧ some k_ ≠ (.slice b2 t500.length b3 : Value).ownBlock ∧ some k_ ≠ (.slice b8 t507.length b9 : Value).ownBlock) (Kd.R_keptB ((Kd.R_apart' da.out (Kd.R_typed bt.out) (by decide))) hkp (fun k_ hk_ hs_ => Or.elim hs_ (fun e_ => (hk_.1.2.2.1) e_) (fun e_ => Or.elim e_ (fun e_ => (hk_.2) e_) (fun e_ => (hk_.1.2.2.2) e_)))) (fun k_ hk_ => ⟨hk_.1.1.1, hk_.1.1.2.1, hk_.1.1.2.2.1, hk_.1.1.2.2.2⟩)); have n7_ := Aside0.mk (Kd.R_reok rfl hy0 (fun k_ e_ => b0.out.1 k_ e_)); have n8_ := Aside0.mk (Kd.R_reok rfl hy1 (fun k_ e_ => bt.out.1 k_ e_)); have n9_ := Aside0.mk (Kd.R_reok rfl hy2 (fun k_ e_ => b1.out.1 k_ e_)); have n10_ := Aside0.mk (blk_kept (by (with_reducible repeat (first | refine blk_drewN ?_ _ | refine blk_drew ?_ | refine blk_alloc ?_ _)); exact am.out) hkp (fun hs_ => Or.elim hs_ (fun e_ => (fun e_ => (Kd.R_ne b0.out am.out (by decide)) e_) e_) (fun e_ => Or.elim e_ (fun e_ => (fun e_ => (Kd.R_ne bt.out am.out (by decide)) e_) e_) (fun e_ => (fun e_ => (Kd.R_ne b1.out am.out (by decide)) e_) e_)))); have n11_ := Aside0.mk (hb); clear ac; clear ad; clear ap; clear ar; clear aq; clear ae; clear da; clear b0; clear bt; clear b1; clear am; clear HB; have ac := n0_; have ad := n1_; have ap := n2_; have ar := n3_; have aq := n4_; have ae := n5_; have da := n6_; have b0 := n7_; have bt := n8_; have b1 := n9_; have am := n10_; have HB := n11_; clear n0_ n1_ n2_ n3_ n4_ n5_ n6_ n7_ n8_ n9_ n10_ n11_; (try clear hb); (try clear hkp); (try clear hy0); (try clear hy1); (try clear hy2)))
      go_loopg [10] dx (fun kq v10 w' => ∃ (x10_2 : Int), v10 = .int .i64 x10_2 ∧ Aside0 (whirligiglaw09_AttrOwn.l0 kq t478 dp x10_2 ax ay az au av ba aw bk bl bm bi bj bn bh = some r) ∧ Aside0 (kq ≤ dx) ∧ Aside0 (Kd.R (Kd.int .i64) 3 w' w.heap.size (fun k_ => some k_ ≠ ((.slice bp t482.length bo) : Value).ownBlock ∧ some k_ ≠ ((.slice bs t489.length br) : Value).ownBlock ∧ some k_ ≠ ((.slice b2 t500.length b3) : Value).ownBlock ∧ some k_ ≠ ((.slice b8 t507.length b9) : Value).ownBlock) v495 dp) ∧ Aside0 (Kd.R (Kd.int .i64) 3 w' w.heap.size (fun k_ => some k_ ≠ (v495 : Value).ownBlock ∧ some k_ ≠ ((.slice bs t489.length br) : Value).ownBlock ∧ some k_ ≠ ((.slice b2 t500.length b3) : Value).ownBlock ∧ some k_ ≠ ((.slice b8 t507.length b9) : Value).ownBlock) (.slice bp t482.length bo) t512) ∧ Aside0 (Kd.R k63 63 w' w.heap.size (fun k_ => some k_ ≠ ((.slice dj t503.length dk) : Value).ownBlock) (.slice di t485.length dh) t513) ∧ Aside0 (Kd.R (Kd.int .i64) 3 w' w.heap.size (fun k_ => some k_ ≠ (v495 : Value).ownBlock ∧ some k_ ≠ ((.slice bp t482.length bo) : Value).ownBlock ∧ some k_ ≠ ((.slice b2 t500.length b3) : Value).ownBlock ∧ some k_ ≠ ((.slice b8 t507.length b9) : Value).ownBlock) (.slice bs t489.length br) t514) ∧ Aside0 (Kd.R (Kd.int .i64) 3 w' w.heap.size (fun k_ => some k_ ≠ (v495 : Value).ownBlock ∧ some k_ ≠ ((.slice bp t482.length bo) : Value).ownBlock ∧ some k_ ≠ ((.slice bs t489.length br) : Value).ownBlock ∧ some k_ ≠ ((.slice b8 t507.length b9) : Value).ownBlock) (.slice b2 t500.length b3) t515) ∧ Aside0 (Kd.R k63 63 w' w.heap.size (fun k_ => some k_ ≠ ((.slice di t485.length dh) : Value).ownBlock) (.slice dj t503.length dk) t516) ∧ Aside0 (Kd.R (Kd.int .i64) 3 w' w.heap.size (fun k_ => some k_ ≠ (v495 : Value).ownBlock ∧ some k_ ≠ ((.slice bp t482.length bo) : Value).ownBlock ∧ some k_ ≠ ((.slice bs t489.length br) : Value).ownBlock ∧ some k_ ≠ ((.slice b2 t500.length b3) : Value).ownBlock) (.slice b8 t507.length b9) t517) ∧ Aside0 (w'.heap[af]? = some (.cells #[.int .i64 ax, .int .i64 ay, .int .i64 az, (.slice bb au.length bc), (.slice bd av.length be), .int .i64 ba, (.slice bf aw.length bg)] 30 (0, 0))) ∧ Aside0 (w'.heap[aj]? = some (.cells #[.int .i64 bk, .int .i64 bl, .int .i64 bm, (.slice bu bi.length bv), (.slice bw bj.length bx), .bool bn, (.slice b4 bh.length bz)] 37 (0, 0))) ∧ Aside0 (w'.heap[ab]? = some (.cells #[.int .i64 t479, .int .i64 t480, .int .i64 t481, (.slice bp t482.length bo), (.slice di t485.length dh), .int .i64 t488, (.slice bs t489.length br)] 30 (0, 0))) ∧ Aside0 (w'.heap[ak]? = some (.cells #[.int .i64 t497, .int .i64 t498, .int .i64 t499, (.slice b2 t500.length b3), (.slice dj t503.length dk), .int .i64 t506, (.slice b8 t507.length b9)] 30 (0, 0))) ∧ Aside0 (Below w.heap.size w w'))
      case atStart => exact ⟨(0), (by first | rfl | (simp; done) | (simp [*]; done)), H', ⟨Nat.le_refl _⟩, ⟨by (with_reducible repeat (first | apply Kd.R_alloc | apply Kd.R_drewN | apply Kd.R_drew)); exact da.out⟩, ⟨by (with_reducible repeat (first | apply Kd.R_alloc | apply Kd.R_drewN | apply Kd.R_drew)); exact Kd.R_mono ap.out (fun _ hk => ⟨hk.2.1, ⟨hk.1, ⟨hk.2.2.1, hk.2.2.2⟩⟩⟩)⟩, ⟨by (with_reducible repeat (first | apply Kd.R_alloc | apply Kd.R_drewN | apply Kd.R_drew)); exact ar.out⟩, ⟨by (with_reducible repeat (first | apply Kd.R_alloc | apply Kd.R_drewN | apply Kd.R_drew)); exact Kd.R_mono aq.out (fun _ hk => ⟨hk.2.1, ⟨hk.1, ⟨hk.2.2.1, hk.2.2.2⟩⟩⟩)⟩, ⟨by (with_reducible repeat (first | apply Kd.R_alloc | apply Kd.R_drewN | apply Kd.R_drew)); exact Kd.R_mono b0.out (fun _ hk => ⟨hk.2.2.1, ⟨hk.1, ⟨hk.2.1, hk.2.2.2⟩⟩⟩)⟩, ⟨by (with_reducible repeat (first | apply Kd.R_alloc | apply Kd.R_drewN | apply Kd.R_drew)); exact bt.out⟩, ⟨by (with_reducible repeat (first | apply Kd.R_alloc | apply Kd.R_drewN | apply Kd.R_drew)); exact Kd.R_mono b1.out (fun _ hk => ⟨hk.2.2.1, ⟨hk.1, ⟨hk.2.1, hk.2.2.2⟩⟩⟩)⟩, ⟨by (with_reducible repeat (first | refine blk_drewN ?_ _ | refine blk_drew ?_ | refine blk_alloc ?_ _)); exact ac.out⟩, ⟨by (with_reducible repeat (first | refine blk_drewN ?_ _ | refine blk_drew ?_ | refine blk_alloc ?_ _)); exact ad.out⟩, ⟨by (with_reducible repeat (first | refine blk_drewN ?_ _ | refine blk_drew ?_ | refine blk_alloc ?_ _)); exact ae.out⟩, ⟨by (with_reducible repeat (first | refine blk_drewN ?_ _ | refine blk_drew ?_ | refine blk_alloc ?_ _)); exact am.out⟩, ⟨by repeat (first | (with_reducible first | exact HB.out | apply below_alloc | apply pw_below_drewN | apply below_drew1 | refine below_set ?_ ah.out | refine below_set ?_ ai.out | refine below_set ?_ ao.out | refine below_set ?_ dm.out) | exact HB.out)⟩⟩
      case round =>
       clear H'
       try clear c1
       try clear c2
       try clear p2
       try clear c4
       try clear c5
       try clear c10
       try clear c14
       try clear c17
       try clear c18
       try clear c21
       try clear c23
       try clear c24
       try clear c25
       try clear c26
       try clear c43
       try clear c44
       try clear c46
       try clear c55
       try clear c56
       try clear c57
       try clear hcz10_3
       try clear hcz10_4
       try clear hcz10_5
       try clear hcz10_6
       try clear hcz12_0
       try clear hcz12_1
       try clear hcz12_2
       try clear hcz12_3
       try clear hcz12_4
       try clear hcz12_5
       try clear hcz12_6
       try clear hcz15_0
       try clear hcz15_1
       try clear hcz15_2
       try clear hcz15_3
       try clear hcz15_4
       try clear hcz15_5
       try clear hcz15_6
       try clear hcz45_0
       try clear hcz45_1
       try clear hcz45_2
       try clear hcz45_3
       try clear hcz45_4
       try clear hcz45_5
       try clear hcz45_6
       try clear hcz47_0
       try clear hcz47_1
       try clear hcz47_2
       try clear hcz47_3
       try clear hcz47_4
       try clear hcz47_5
       try clear hcz47_6
       try clear hcz49_0
       try clear hcz49_1
       try clear hcz49_2
       try clear hcz49_3
       try clear hcz49_4
       try clear hcz49_5
       try clear hcz49_6
       try clear hcz51_0
       try clear hcz51_1
       try clear hcz51_2
       try clear hcz51_3
       try clear hcz51_4
       try clear hcz51_5
       try clear hcz51_6
       try clear hcz52_0
       try clear hcz52_1
       try clear hcz52_2
       try clear hcz52_3
       try clear hcz52_4
       try clear hcz52_5
       try clear hcz52_6
       try clear hcz58_0
       try clear hcz58_1
       try clear hcz58_2
       try clear hcz58_3
       try clear hcz58_4
       try clear hcz58_5
       try clear hcz58_6
       try clear hcz63_0
       try clear hcz63_1
       try clear hcz63_2
       try clear hcz63_3
       try clear hcz63_4
       try clear hcz63_5
       try clear hcz63_6
       try clear hcz65_0
       try clear hcz65_1
       try clear hcz65_2
       try clear hcz65_3
       try clear hcz65_4
       try clear hcz65_5
       try clear hcz65_6
       try clear hfz10_0
       try clear hfz10_1
       try clear hfz10_2
       try clear hfz10_3
       try clear hfz10_4
       try clear hfz10_5
       try clear hfz10_6
       try clear hfz12_0
       try clear hfz12_1
       try clear hfz12_2
       try clear hfz12_3
       try clear hfz12_4
       try clear hfz12_5
       try clear hfz12_6
       try clear hfz15_0
       try clear hfz15_1
       try clear hfz15_2
       try clear hfz15_3
       try clear hfz15_4
       try clear hfz15_5
       try clear hfz15_6
       try clear hfz45_0
       try clear hfz45_1
       try clear hfz45_2
       try clear hfz45_3
       try clear hfz45_4
       try clear hfz45_5
       try clear hfz45_6
       try clear hfz47_0
       try clear hfz47_1
       try clear hfz47_2
       try clear hfz47_3
       try clear hfz47_4
       try clear hfz47_5
       try clear hfz47_6
       try clear hfz49_0
       try clear hfz49_1
       try clear hfz49_2
       try clear hfz49_3
       try clear hfz49_4
       try clear hfz49_5
       try clear hfz49_6
       try clear hfz51_0
       try clear hfz51_1
       try clear hfz51_2
       try clear hfz51_3
       try clear hfz51_4
       try clear hfz51_5
       try clear hfz51_6
       try clear hfz52_0
       try clear hfz52_1
       try clear hfz52_2
       try clear hfz52_3
       try clear hfz52_4
       try clear hfz52_5
       try clear hfz52_6
       try clear hfz58_0
       try clear hfz58_1
       try clear hfz58_2
       try clear hfz58_3
       try clear hfz58_4
       try clear hfz58_5
       try clear hfz58_6
       try clear hfz63_0
       try clear hfz63_1
       try clear hfz63_2
       try clear hfz63_3
       try clear hfz63_4
       try clear hfz63_5
       try clear hfz63_6
       try clear hfz65_0
       try clear hfz65_1
       try clear hfz65_2
       try clear hfz65_3
       try clear hfz65_4
       try clear hfz65_5
       try clear hfz65_6
       obtain ⟨x10_2, rfl, HA, HK2, HO_7, HO_493003, HO_493004, HO_493006, HO_512003, HO_512004, HO_512006, ac, ad, ae, am, HB⟩ := hrel
       have hl493003_2 := (Kd.R_reads' HO_493003.out).1
       rw [hl493003_2] at HO_493003
       (try simp only [hl493003_2])
       (try simp only [hl493003_2] at ac)
       (try simp only [hl493003_2] at ad)
       (try simp only [hl493003_2] at ae)
       (try simp only [hl493003_2] at am)
       (try simp only [hl493003_2] at HO_7)
       (try simp only [hl493003_2] at HO_493004)
       (try simp only [hl493003_2] at HO_493006)
       (try simp only [hl493003_2] at HO_512003)
       (try simp only [hl493003_2] at HO_512004)
       (try simp only [hl493003_2] at HO_512006)
       have hl493004_2 := (Kd.R_reads' HO_493004.out).1
       rw [hl493004_2] at HO_493004
       (try simp only [hl493004_2])
       (try simp only [hl493004_2] at ac)
       (try simp only [hl493004_2] at ad)
       (try simp only [hl493004_2] at ae)
       (try simp only [hl493004_2] at am)
       (try simp only [hl493004_2] at HO_7)
       (try simp only [hl493004_2] at HO_493003)
       (try simp only [hl493004_2] at HO_493006)
       (try simp only [hl493004_2] at HO_512003)
       (try simp only [hl493004_2] at HO_512004)
       (try simp only [hl493004_2] at HO_512006)
       have hl493006_2 := (Kd.R_reads' HO_493006.out).1
       rw [hl493006_2] at HO_493006
       (try simp only [hl493006_2])
       (try simp only [hl493006_2] at ac)
       (try simp only [hl493006_2] at ad)
       (try simp only [hl493006_2] at ae)
       (try simp only [hl493006_2] at am)
       (try simp only [hl493006_2] at HO_7)
       (try simp only [hl493006_2] at HO_493003)
       (try simp only [hl493006_2] at HO_493004)
       (try simp only [hl493006_2] at HO_512003)
       (try simp only [hl493006_2] at HO_512004)
       (try simp only [hl493006_2] at HO_512006)
       have hl512003_2 := (Kd.R_reads' HO_512003.out).1
       rw [hl512003_2] at HO_512003
       (try simp only [hl512003_2])
       (try simp only [hl512003_2] at ac)
       (try simp only [hl512003_2] at ad)
       (try simp only [hl512003_2] at ae)
       (try simp only [hl512003_2] at am)
       (try simp only [hl512003_2] at HO_7)
       (try simp only [hl512003_2] at HO_493003)
       (try simp only [hl512003_2] at HO_493004)
       (try simp only [hl512003_2] at HO_493006)
       (try simp only [hl512003_2] at HO_512004)
       (try simp only [hl512003_2] at HO_512006)
       have hl512004_2 := (Kd.R_reads' HO_512004.out).1
       rw [hl512004_2] at HO_512004
       (try simp only [hl512004_2])
       (try simp only [hl512004_2] at ac)
       (try simp only [hl512004_2] at ad)
       (try simp only [hl512004_2] at ae)
       (try simp only [hl512004_2] at am)
       (try simp only [hl512004_2] at HO_7)
       (try simp only [hl512004_2] at HO_493003)
       (try simp only [hl512004_2] at HO_493004)
       (try simp only [hl512004_2] at HO_493006)
       (try simp only [hl512004_2] at HO_512003)
       (try simp only [hl512004_2] at HO_512006)
       have hl512006_2 := (Kd.R_reads' HO_512006.out).1
       rw [hl512006_2] at HO_512006
       (try simp only [hl512006_2])
       (try simp only [hl512006_2] at ac)
       (try simp only [hl512006_2] at ad)
       (try simp only [hl512006_2] at ae)
       (try simp only [hl512006_2] at am)
       (try simp only [hl512006_2] at HO_7)
       (try simp only [hl512006_2] at HO_493003)
       (try simp only [hl512006_2] at HO_493004)
       (try simp only [hl512006_2] at HO_493006)
       (try simp only [hl512006_2] at HO_512003)
       (try simp only [hl512006_2] at HO_512004)
       cases gk with
       | zero => exact absurd HA.out (by simp [whirligiglaw09_AttrOwn.l0])
       | succ k2 =>
        have H := HA.out
        clear HA
        simp only [whirligiglaw09_AttrOwn.l0] at H
        by_cases c67 : x10_2 < (dp.length : Int)
        ·rw [if_pos c67] at H
         have c67b0 : decide (x10_2 < (dp.length : Int)) = true := decide_eq_true c67
         clear c67
         by_cases c68 : 0 ≤ x10_2
         ·rw [if_pos c68] at H
          have c68b0 : decide (0 ≤ x10_2) = true := decide_eq_true c68
          clear c68
          by_cases c69 : x10_2 < (bh.length : Int)
          ·rw [if_pos c69] at H
           have c69b0 : decide (x10_2 < (bh.length : Int)) = true := decide_eq_true c69
           clear c69
           by_cases c70 : (rd bh x10_2) = (rd dp x10_2)
           ·rw [if_pos c70] at H
            have c70b0 : ((rd bh x10_2) == (rd dp x10_2)) = true := beq_iff_eq.mpr c70
            have c70b1 : ((rd bh x10_2) != (rd dp x10_2)) = false := bne_eq_false_iff_eq.mpr c70
            clear c70
            have H' := Aside0.mk H
            clear H
            obtain ⟨Ao71, co71, eo71⟩ := Kd.R_slice HO_7.out
            subst eo71
            try go_wp2
            replace HO_7 := Aside0.mk (Kd.R_drew HO_7.out)
            replace HO_493003 := Aside0.mk (Kd.R_drew HO_493003.out)
            replace HO_493004 := Aside0.mk (Kd.R_drew HO_493004.out)
            replace HO_493006 := Aside0.mk (Kd.R_drew HO_493006.out)
            replace HO_512003 := Aside0.mk (Kd.R_drew HO_512003.out)
            replace HO_512004 := Aside0.mk (Kd.R_drew HO_512004.out)
            replace HO_512006 := Aside0.mk (Kd.R_drew HO_512006.out)
            replace ac := Aside0.mk (blk_drew ac.out)
            replace ad := Aside0.mk (blk_drew ad.out)
            replace ae := Aside0.mk (blk_drew ae.out)
            replace am := Aside0.mk (blk_drew am.out)
            replace HB := Aside0.mk (below_drew1 HB.out)
            have p518 : 0 ≤ (x10_2 : Int) := of_decide_eq_true (by first | (with_reducible assumption) | assumption)
            have q518 : x10_2 < (bh.length : Int) := of_decide_eq_true (by first | (with_reducible assumption) | assumption)
            obtain ⟨ad518, e518, hx518_0⟩ := Kd.at_int HR1_6.out x10_2 p518 q518
            have hw518_0 := hx518_0
            cases e518
            replace hx518_0 := (HB.out.cell (World.block_lt_of_cell? w _ hx518_0)).trans hx518_0
            replace p518 := eq_true p518
            replace q518 := eq_true q518
            have p519 : 0 ≤ (x10_2 : Int) := of_decide_eq_true (by first | (with_reducible assumption) | assumption)
            have q519 : x10_2 < (dp.length : Int) := of_decide_eq_true (by first | (with_reducible assumption) | assumption)
            obtain ⟨ad519, e519, hx519_0⟩ := Kd.at_int (Kd.R_reads' HO_7.out).2.2 x10_2 p519 q519
            cases e519
            replace p519 := eq_true p519
            replace q519 := eq_true q519
            refine start_ (n := 10) (S := fun w' => w'.cell? ⟨aj, 0, none⟩ = some (.int .i64 bk) ∧ w'.cell? ⟨aj, 1, none⟩ = some (.int .i64 bl) ∧ w'.cell? ⟨aj, 2, none⟩ = some (.int .i64 bm) ∧ w'.cell? ⟨aj, 3, none⟩ = some (.slice bu bi.length bv) ∧ w'.cell? ⟨aj, 4, none⟩ = some (.slice bw bj.length bx) ∧ w'.cell? ⟨aj, 5, none⟩ = some (.bool bn) ∧ w'.cell? ⟨aj, 6, none⟩ = some (.slice (some ad518) bh.length bz) ∧ w'.cell? (ad518.add (x10_2).toNat) = some (.int .i64 (rd bh x10_2)) ∧ w'.cell? (ad519.add (x10_2).toNat) = some (.int .i64 (rd dp x10_2))) (ds := []) #[false, false, false, false, false, false, false, false, false, false] (by kernel_rfl) rfl rfl (ka4b4.b7 ad.out ⟨((HB.out.cell (World.block_lt_of_cell? w _ hw518_0)).trans hw518_0), hx519_0⟩) (fun hHeld => ?_); refine with_tabW whirligiglaw09_AttrOwn.tab14 whirligiglaw09_AttrOwn.bits14 (fun HT_ HW_ => ?_)
            generalize wr.drew = w72 at HO_7 HO_493003 HO_493004 HO_493006 HO_512003 HO_512004 HO_512006 ac ad ae am HB hx518_0 hx519_0 hHeld ⊢
            refine pure_ (i := 0) (N := some 48) (v := ?_) (a' := ?_) #[true, false, false, false, false, false, false, false, false, false] rfl rfl (any_of HT_.out (by kernel_rfl)) (fun _ _ _ h => h) (Or.inl ⟨by rfl, ?_⟩) ?_ ?_
            rotate_left
            ·intro w'
             go_simp
             with_reducible rfl
            rotate_left
            ·simp only [Act.put, List.setIfInBounds_toArray, List.set_cons_zero, List.set_cons_succ, i64_w, i32_w]
             rfl
            refine pure_ (i := 2) (N := some 50) (v := ?_) (a' := ?_) #[true, false, true, false, false, false, false, false, false, false] rfl rfl (any_of HT_.out (by kernel_rfl)) (fun _ _ _ h => h) (Or.inl ⟨by rfl, ?_⟩) ?_ ?_
            rotate_left
            ·intro w'
             go_simp
             with_reducible rfl
            rotate_left
            ·simp only [Act.put, List.setIfInBounds_toArray, List.set_cons_zero, List.set_cons_succ, i64_w, i32_w]
             rfl
            refine pure_ (i := 5) (N := some 53) (v := ?_) (a' := ?_) #[true, false, true, false, false, true, false, false, false, false] rfl rfl (any_of HT_.out (by kernel_rfl)) (fun _ _ _ h => h) (Or.inl ⟨by rfl, ?_⟩) ?_ ?_
            rotate_left
            ·intro w'
             go_simp
             with_reducible rfl
            rotate_left
            ·simp only [Act.put, List.setIfInBounds_toArray, List.set_cons_zero, List.set_cons_succ, i64_w, i32_w]
             rfl
            refine pure_ (i := 6) (N := some 54) (v := ?_) (a' := ?_) #[true, false, true, false, false, true, true, false, false, false] rfl rfl (any_of HT_.out (by kernel_rfl)) (fun _ _ _ h => h) (Or.inl ⟨by rfl, ?_⟩) ?_ ?_
            rotate_left
            ·intro w'
             go_simp
             with_reducible rfl
            rotate_left
            ·simp only [Act.put, List.setIfInBounds_toArray, List.set_cons_zero, List.set_cons_succ, i64_w, i32_w]
             rfl
            refine pure_ (i := 7) (N := some 55) (v := ?_) (a' := ?_) #[true, false, true, false, false, true, true, true, false, false] rfl rfl (any_of HT_.out (by kernel_rfl)) (fun _ _ _ h => h) (Or.inl ⟨by rfl, ?_⟩) ?_ ?_
            rotate_left
            ·intro w'
             go_simp
             with_reducible rfl
            rotate_left
            ·simp only [Act.put, List.setIfInBounds_toArray, List.set_cons_zero, List.set_cons_succ, i64_w, i32_w]
             rfl
            refine take_ (i := 1) (N := some 49) (v := ?_) (a' := ?_) #[true, true, true, false, false, true, true, true, false, false] rfl rfl (take_ofW HT_.out HW_.out (by kernel_rfl)) (fun _ _ _ h => h) (Or.inl ⟨by rfl, ?_⟩) hHeld ?_ ?_
            rotate_left
            ·rintro w' ⟨s0, s1, s2, s3, s4, s5, s6, s7, s8⟩
             go_simp
             with_reducible rfl
            rotate_left
            ·simp only [Act.put, List.setIfInBounds_toArray, List.set_cons_zero, List.set_cons_succ, i64_w, i32_w]
             rfl
            refine pure_ (i := 3) (N := some 51) (v := ?_) (a' := ?_) #[true, true, true, true, false, true, true, true, false, false] rfl rfl (any_of HT_.out (by kernel_rfl)) (fun _ _ _ h => h) (Or.inl ⟨by rfl, ?_⟩) ?_ ?_
            rotate_left
            ·intro w'
             go_simp
             with_reducible rfl
            rotate_left
            ·simp only [Act.put, List.setIfInBounds_toArray, List.set_cons_zero, List.set_cons_succ, i64_w, i32_w]
             rfl
            refine take_ (i := 4) (N := some 52) (v := ?_) (a' := ?_) #[true, true, true, true, true, true, true, true, false, false] rfl rfl (take_ofW HT_.out HW_.out (by kernel_rfl)) (fun _ _ _ h => h) (Or.inl ⟨by rfl, ?_⟩) hHeld ?_ ?_
            rotate_left
            ·rintro w' ⟨s0, s1, s2, s3, s4, s5, s6, s7, s8⟩
             go_simp
             with_reducible rfl
            rotate_left
            ·simp only [Act.put, List.setIfInBounds_toArray, List.set_cons_zero, List.set_cons_succ, i64_w, i32_w]
             rfl
            refine take_ (i := 8) (N := some 56) (v := ?_) (a' := ?_) #[true, true, true, true, true, true, true, true, true, false] rfl rfl (take_ofW HT_.out HW_.out (by kernel_rfl)) (fun _ _ _ h => h) (Or.inl ⟨by rfl, ?_⟩) hHeld ?_ ?_
            rotate_left
            ·rintro w' ⟨s0, s1, s2, s3, s4, s5, s6, s7, s8⟩
             go_simp
             with_reducible rfl
            rotate_left
            ·simp only [Act.put, List.setIfInBounds_toArray, List.set_cons_zero, List.set_cons_succ, i64_w, i32_w]
             rfl
            refine pure_ (i := 9) (N := some 57) (v := ?_) (a' := ?_) #[true, true, true, true, true, true, true, true, true, true] rfl rfl (any_of HT_.out (by kernel_rfl)) (fun _ _ _ h => h) (Or.inl ⟨by rfl, ?_⟩) ?_ ?_
            rotate_left
            ·intro w'
             go_simp
             with_reducible rfl
            rotate_left
            ·simp only [Act.put, List.setIfInBounds_toArray, List.set_cons_zero, List.set_cons_succ, i64_w, i32_w]
             rfl
            refine done_ (done_of HT_.out (by kernel_rfl)) ?_
            try go_wp2
            (try simp only [← hl493003_2, ← hl493004_2, ← hl493006_2, ← hl512003_2, ← hl512004_2, ← hl512006_2])
            go_roundg k2
            case measure => have := HJ2.out; have := HK2.out; omega
            case rel => exact ⟨(wrap64 (x10_2 + 1)), (by first | rfl | (simp; done) | (simp [*]; done)), H', ⟨by have := HJ2.out; have := HK2.out; omega⟩, ⟨by (try simp only [hl493003_2]); (try simp only [hl493004_2]); (try simp only [hl493006_2]); (try simp only [hl512003_2]); (try simp only [hl512004_2]); (try simp only [hl512006_2]); (with_reducible repeat (first | apply Kd.R_alloc | apply Kd.R_drewN | apply Kd.R_drew)); exact HO_7.out⟩, ⟨by (try simp only [hl493003_2]); (try simp only [hl493004_2]); (try simp only [hl493006_2]); (try simp only [hl512003_2]); (try simp only [hl512004_2]); (try simp only [hl512006_2]); (with_reducible repeat (first | apply Kd.R_alloc | apply Kd.R_drewN | apply Kd.R_drew)); exact HO_493003.out⟩, ⟨by (try simp only [hl493003_2]); (try simp only [hl493004_2]); (try simp only [hl493006_2]); (try simp only [hl512003_2]); (try simp only [hl512004_2]); (try simp only [hl512006_2]); (with_reducible repeat (first | apply Kd.R_alloc | apply Kd.R_drewN | apply Kd.R_drew)); exact HO_493004.out⟩, ⟨by (try simp only [hl493003_2]); (try simp only [hl493004_2]); (try simp only [hl493006_2]); (try simp only [hl512003_2]); (try simp only [hl512004_2]); (try simp only [hl512006_2]); (with_reducible repeat (first | apply Kd.R_alloc | apply Kd.R_drewN | apply Kd.R_drew)); exact HO_493006.out⟩, ⟨by (try simp only [hl493003_2]); (try simp only [hl493004_2]); (try simp only [hl493006_2]); (try simp only [hl512003_2]); (try simp only [hl512004_2]); (try simp only [hl512006_2]); (with_reducible repeat (first | apply Kd.R_alloc | apply Kd.R_drewN | apply Kd.R_drew)); exact HO_512003.out⟩, ⟨by (try simp only [hl493003_2]); (try simp only [hl493004_2]); (try simp only [hl493006_2]); (try simp only [hl512003_2]); (try simp only [hl512004_2]); (try simp only [hl512006_2]); (with_reducible repeat (first | apply Kd.R_alloc | apply Kd.R_drewN | apply Kd.R_drew)); exact HO_512004.out⟩, ⟨by (try simp only [hl493003_2]); (try simp only [hl493004_2]); (try simp only [hl493006_2]); (try simp only [hl512003_2]); (try simp only [hl512004_2]); (try simp only [hl512006_2]); (with_reducible repeat (first | apply Kd.R_alloc | apply Kd.R_drewN | apply Kd.R_drew)); exact HO_512006.out⟩, ⟨by (try simp only [hl493003_2]); (try simp only [hl493004_2]); (try simp only [hl493006_2]); (try simp only [hl512003_2]); (try simp only [hl512004_2]); (try simp only [hl512006_2]); (with_reducible repeat (first | refine blk_drewN ?_ _ | refine blk_drew ?_ | refine blk_alloc ?_ _)); exact ac.out⟩, ⟨by (try simp only [hl493003_2]); (try simp only [hl493004_2]); (try simp only [hl493006_2]); (try simp only [hl512003_2]); (try simp only [hl512004_2]); (try simp only [hl512006_2]); (with_reducible repeat (first | refine blk_drewN ?_ _ | refine blk_drew ?_ | refine blk_alloc ?_ _)); exact ad.out⟩, ⟨by (try simp only [hl493003_2]); (try simp only [hl493004_2]); (try simp only [hl493006_2]); (try simp only [hl512003_2]); (try simp only [hl512004_2]); (try simp only [hl512006_2]); (with_reducible repeat (first | refine blk_drewN ?_ _ | refine blk_drew ?_ | refine blk_alloc ?_ _)); exact ae.out⟩, ⟨by (try simp only [hl493003_2]); (try simp only [hl493004_2]); (try simp only [hl493006_2]); (try simp only [hl512003_2]); (try simp only [hl512004_2]); (try simp only [hl512006_2]); (with_reducible repeat (first | refine blk_drewN ?_ _ | refine blk_drew ?_ | refine blk_alloc ?_ _)); exact am.out⟩, ⟨by repeat (first | (with_reducible first | exact HB.out | apply below_alloc | apply pw_below_drewN | apply below_drew1 | refine below_set ?_ ah.out | refine below_set ?_ ai.out | refine below_set ?_ ao.out | refine below_set ?_ dm.out) | exact HB.out)⟩⟩
           ·rw [if_neg c70] at H
            have c70b0 : ((rd bh x10_2) == (rd dp x10_2)) = false := beq_eq_false_iff_ne.mpr c70
            have c70b1 : ((rd bh x10_2) != (rd dp x10_2)) = true := bne_iff_ne.mpr c70
            obtain rfl := Option.some.inj H
            obtain ⟨Ao73, co73, eo73⟩ := Kd.R_slice HO_7.out
            subst eo73
            try go_wp2
            replace HO_7 := Aside0.mk (Kd.R_drew HO_7.out)
            replace HO_493003 := Aside0.mk (Kd.R_drew HO_493003.out)
            replace HO_493004 := Aside0.mk (Kd.R_drew HO_493004.out)
            replace HO_493006 := Aside0.mk (Kd.R_drew HO_493006.out)
            replace HO_512003 := Aside0.mk (Kd.R_drew HO_512003.out)
            replace HO_512004 := Aside0.mk (Kd.R_drew HO_512004.out)
            replace HO_512006 := Aside0.mk (Kd.R_drew HO_512006.out)
            replace ac := Aside0.mk (blk_drew ac.out)
            replace ad := Aside0.mk (blk_drew ad.out)
            replace ae := Aside0.mk (blk_drew ae.out)
            replace am := Aside0.mk (blk_drew am.out)
            replace HB := Aside0.mk (below_drew1 HB.out)
            have p518 : 0 ≤ (x10_2 : Int) := of_decide_eq_true (by first | (with_reducible assumption) | assumption)
            have q518 : x10_2 < (bh.length : Int) := of_decide_eq_true (by first | (with_reducible assumption) | assumption)
            obtain ⟨ad518, e518, hx518_0⟩ := Kd.at_int HR1_6.out x10_2 p518 q518
            have hw518_0 := hx518_0
            cases e518
            replace hx518_0 := (HB.out.cell (World.block_lt_of_cell? w _ hx518_0)).trans hx518_0
            replace p518 := eq_true p518
            replace q518 := eq_true q518
            have p519 : 0 ≤ (x10_2 : Int) := of_decide_eq_true (by first | (with_reducible assumption) | assumption)
            have q519 : x10_2 < (dp.length : Int) := of_decide_eq_true (by first | (with_reducible assumption) | assumption)
            obtain ⟨ad519, e519, hx519_0⟩ := Kd.at_int (Kd.R_reads' HO_7.out).2.2 x10_2 p519 q519
            cases e519
            replace p519 := eq_true p519
            replace q519 := eq_true q519
            refine start_ (n := 10) (S := fun w' => w'.cell? ⟨aj, 0, none⟩ = some (.int .i64 bk) ∧ w'.cell? ⟨aj, 1, none⟩ = some (.int .i64 bl) ∧ w'.cell? ⟨aj, 2, none⟩ = some (.int .i64 bm) ∧ w'.cell? ⟨aj, 3, none⟩ = some (.slice bu bi.length bv) ∧ w'.cell? ⟨aj, 4, none⟩ = some (.slice bw bj.length bx) ∧ w'.cell? ⟨aj, 5, none⟩ = some (.bool bn) ∧ w'.cell? ⟨aj, 6, none⟩ = some (.slice (some ad518) bh.length bz) ∧ w'.cell? (ad518.add (x10_2).toNat) = some (.int .i64 (rd bh x10_2)) ∧ w'.cell? (ad519.add (x10_2).toNat) = some (.int .i64 (rd dp x10_2))) (ds := []) #[false, false, false, false, false, false, false, false, false, false] (by kernel_rfl) rfl rfl (ka4b4.b7 ad.out ⟨((HB.out.cell (World.block_lt_of_cell? w _ hw518_0)).trans hw518_0), hx519_0⟩) (fun hHeld => ?_); refine with_tabW whirligiglaw09_AttrOwn.tab14 whirligiglaw09_AttrOwn.bits14 (fun HT_ HW_ => ?_)
            generalize wr.drew = w74 at HO_7 HO_493003 HO_493004 HO_493006 HO_512003 HO_512004 HO_512006 ac ad ae am HB hx518_0 hx519_0 hHeld ⊢
            refine pure_ (i := 0) (N := some 48) (v := ?_) (a' := ?_) #[true, false, false, false, false, false, false, false, false, false] rfl rfl (any_of HT_.out (by kernel_rfl)) (fun _ _ _ h => h) (Or.inl ⟨by rfl, ?_⟩) ?_ ?_
            rotate_left
            ·intro w'
             go_simp
             with_reducible rfl
            rotate_left
            ·simp only [Act.put, List.setIfInBounds_toArray, List.set_cons_zero, List.set_cons_succ, i64_w, i32_w]
             rfl
            refine pure_ (i := 2) (N := some 50) (v := ?_) (a' := ?_) #[true, false, true, false, false, false, false, false, false, false] rfl rfl (any_of HT_.out (by kernel_rfl)) (fun _ _ _ h => h) (Or.inl ⟨by rfl, ?_⟩) ?_ ?_
            rotate_left
            ·intro w'
             go_simp
             with_reducible rfl
            rotate_left
            ·simp only [Act.put, List.setIfInBounds_toArray, List.set_cons_zero, List.set_cons_succ, i64_w, i32_w]
             rfl
            refine pure_ (i := 5) (N := some 53) (v := ?_) (a' := ?_) #[true, false, true, false, false, true, false, false, false, false] rfl rfl (any_of HT_.out (by kernel_rfl)) (fun _ _ _ h => h) (Or.inl ⟨by rfl, ?_⟩) ?_ ?_
            rotate_left
            ·intro w'
             go_simp
             with_reducible rfl
            rotate_left
            ·simp only [Act.put, List.setIfInBounds_toArray, List.set_cons_zero, List.set_cons_succ, i64_w, i32_w]
             rfl
            refine pure_ (i := 6) (N := some 54) (v := ?_) (a' := ?_) #[true, false, true, false, false, true, true, false, false, false] rfl rfl (any_of HT_.out (by kernel_rfl)) (fun _ _ _ h => h) (Or.inl ⟨by rfl, ?_⟩) ?_ ?_
            rotate_left
            ·intro w'
             go_simp
             with_reducible rfl
            rotate_left
            ·simp only [Act.put, List.setIfInBounds_toArray, List.set_cons_zero, List.set_cons_succ, i64_w, i32_w]
             rfl
            refine pure_ (i := 7) (N := some 55) (v := ?_) (a' := ?_) #[true, false, true, false, false, true, true, true, false, false] rfl rfl (any_of HT_.out (by kernel_rfl)) (fun _ _ _ h => h) (Or.inl ⟨by rfl, ?_⟩) ?_ ?_
            rotate_left
            ·intro w'
             go_simp
             with_reducible rfl
            rotate_left
            ·simp only [Act.put, List.setIfInBounds_toArray, List.set_cons_zero, List.set_cons_succ, i64_w, i32_w]
             rfl
            refine take_ (i := 1) (N := some 49) (v := ?_) (a' := ?_) #[true, true, true, false, false, true, true, true, false, false] rfl rfl (take_ofW HT_.out HW_.out (by kernel_rfl)) (fun _ _ _ h => h) (Or.inl ⟨by rfl, ?_⟩) hHeld ?_ ?_
            rotate_left
            ·rintro w' ⟨s0, s1, s2, s3, s4, s5, s6, s7, s8⟩
             go_simp
             with_reducible rfl
            rotate_left
            ·simp only [Act.put, List.setIfInBounds_toArray, List.set_cons_zero, List.set_cons_succ, i64_w, i32_w]
             rfl
            refine pure_ (i := 3) (N := some 51) (v := ?_) (a' := ?_) #[true, true, true, true, false, true, true, true, false, false] rfl rfl (any_of HT_.out (by kernel_rfl)) (fun _ _ _ h => h) (Or.inl ⟨by rfl, ?_⟩) ?_ ?_
            rotate_left
            ·intro w'
             go_simp
             with_reducible rfl
            rotate_left
            ·simp only [Act.put, List.setIfInBounds_toArray, List.set_cons_zero, List.set_cons_succ, i64_w, i32_w]
             rfl
            refine take_ (i := 4) (N := some 52) (v := ?_) (a' := ?_) #[true, true, true, true, true, true, true, true, false, false] rfl rfl (take_ofW HT_.out HW_.out (by kernel_rfl)) (fun _ _ _ h => h) (Or.inl ⟨by rfl, ?_⟩) hHeld ?_ ?_
            rotate_left
            ·rintro w' ⟨s0, s1, s2, s3, s4, s5, s6, s7, s8⟩
             go_simp
             with_reducible rfl
            rotate_left
            ·simp only [Act.put, List.setIfInBounds_toArray, List.set_cons_zero, List.set_cons_succ, i64_w, i32_w]
             rfl
            refine take_ (i := 8) (N := some 56) (v := ?_) (a' := ?_) #[true, true, true, true, true, true, true, true, true, false] rfl rfl (take_ofW HT_.out HW_.out (by kernel_rfl)) (fun _ _ _ h => h) (Or.inl ⟨by rfl, ?_⟩) hHeld ?_ ?_
            rotate_left
            ·rintro w' ⟨s0, s1, s2, s3, s4, s5, s6, s7, s8⟩
             go_simp
             with_reducible rfl
            rotate_left
            ·simp only [Act.put, List.setIfInBounds_toArray, List.set_cons_zero, List.set_cons_succ, i64_w, i32_w]
             rfl
            refine pure_ (i := 9) (N := some 57) (v := ?_) (a' := ?_) #[true, true, true, true, true, true, true, true, true, true] rfl rfl (any_of HT_.out (by kernel_rfl)) (fun _ _ _ h => h) (Or.inl ⟨by rfl, ?_⟩) ?_ ?_
            rotate_left
            ·intro w'
             go_simp
             with_reducible rfl
            rotate_left
            ·simp only [Act.put, List.setIfInBounds_toArray, List.set_cons_zero, List.set_cons_succ, i64_w, i32_w]
             rfl
            refine done_ (done_of HT_.out (by kernel_rfl)) ?_
            try go_wp2
            go_ret
            exact ⟨by first | rfl | (simp [errW_none, errW_some] <;> rfl) | (simp [*, errW_none, errW_some] <;> rfl), by repeat (first | (with_reducible first | exact HB.out | apply below_alloc | apply pw_below_drewN | apply below_drew1 | refine below_set ?_ ah.out | refine below_set ?_ ai.out | refine below_set ?_ ao.out | refine below_set ?_ dm.out) | exact HB.out)⟩
          ·rw [if_neg c69] at H
           exact absurd H (by simp)
         ·rw [if_neg c68] at H
          exact absurd H (by simp)
        ·rw [if_neg c67] at H
         have c67b0 : decide (x10_2 < (dp.length : Int)) = false := decide_eq_false c67
         clear c67
         replace H := Option.bind_eq_some_iff.mp H
         obtain ⟨t520, A750, H⟩ := H
         (try dsimp only at H)
         have A75 := Aside0.mk A750
         clear A750
         by_cases c76 : t520.toList = t478.toList
         ·rw [if_pos c76] at H
          have c76b0 : (t520.toList == t478.toList) = true := beq_iff_eq.mpr c76
          have c76b1 : (t520.toList != t478.toList) = false := bne_eq_false_iff_eq.mpr c76
          clear c76
          replace H := Option.bind_eq_some_iff.mp H
          obtain ⟨t521, A770, H⟩ := H
          replace H : (some t521) = some r := H
          have A77 := Aside0.mk A770
          clear A770
          obtain rfl := Option.some.inj H
          obtain ⟨Ao78, co78, eo78⟩ := Kd.R_slice HO_7.out
          subst eo78
          have hnb79 := NB473_474.out
          have hnc79 := NB474_473.out
          have hnb80 := aa.out
          have hnc80 := al.out
          have hnb81 := bq.out
          have hnc81 := NB511_473.out
          have hcz82_0 : wr.cell? ⟨af, 0, none⟩ = some (.int .i64 ax) := (blk_cell ac.out 0).trans rfl
          have hcz82_1 : wr.cell? ⟨af, 1, none⟩ = some (.int .i64 ay) := (blk_cell ac.out 1).trans rfl
          have hcz82_2 : wr.cell? ⟨af, 2, none⟩ = some (.int .i64 az) := (blk_cell ac.out 2).trans rfl
          have hcz82_3 : wr.cell? ⟨af, 3, none⟩ = some (.slice bb au.length bc) := (blk_cell ac.out 3).trans rfl
          have hcz82_4 : wr.cell? ⟨af, 4, none⟩ = some (.slice bd av.length be) := (blk_cell ac.out 4).trans rfl
          have hcz82_5 : wr.cell? ⟨af, 5, none⟩ = some (.int .i64 ba) := (blk_cell ac.out 5).trans rfl
          have hcz82_6 : wr.cell? ⟨af, 6, none⟩ = some (.slice bf aw.length bg) := (blk_cell ac.out 6).trans rfl
          have hfz82_0 := blk_frozen ac.out 0
          have hfz82_1 := blk_frozen ac.out 1
          have hfz82_2 := blk_frozen ac.out 2
          have hfz82_3 := blk_frozen ac.out 3
          have hfz82_4 := blk_frozen ac.out 4
          have hfz82_5 := blk_frozen ac.out 5
          have hfz82_6 := blk_frozen ac.out 6
          go_wp2_with (first | ((with_reducible refine gate_callee (f := 14) rfl ?_); refine goesL_ (some 59) rfl rfl Try.func14 (by kernel_rfl) rfl #[.agg #[.int .i64 ax, .int .i64 ay, .int .i64 az, .slice bb au.length bc, .slice bd av.length be, .int .i64 ba, .slice bf aw.length bg]] rfl (by (try simp only [List.map_toArray, List.map_cons, List.map_nil]); first | done | rfl) ?_; (with_reducible refine (attr_Text.calls k2 ax ay az _ _ au _ _ av ba _ _ aw t520 _ ?side1 ?side2 ?side3 ?side4 ?side5 ?side6 A75.out).mono ?_); (case side1 | side3 | side5 => repeat (first | exact (Kd.C_below db.out HB.out) | exact (Kd.C_below dd.out HB.out) | exact (Kd.C_below df.out HB.out) | (with_reducible refine Kd.C_alloc ?_ _) | (with_reducible refine Kd.C_drewN ?_ _) | (with_reducible refine Kd.C_drew ?_))); (case side2 | side4 | side6 => first | exact dc.out | exact de.out | exact dg.out); rintro e w83 ⟨rfl, hb⟩; refine ⟨_, rfl, ?_⟩; replace HO_7 := Aside0.mk (Kd.R_below (by (with_reducible repeat (first | apply Kd.R_alloc | apply Kd.R_drewN | apply Kd.R_drew)); exact HO_7.out) hb); replace HO_493003 := Aside0.mk (Kd.R_below (by (with_reducible repeat (first | apply Kd.R_alloc | apply Kd.R_drewN | apply Kd.R_drew)); exact HO_493003.out) hb); replace HO_493004 := Aside0.mk (Kd.R_below (by (with_reducible repeat (first | apply Kd.R_alloc | apply Kd.R_drewN | apply Kd.R_drew)); exact HO_493004.out) hb); replace HO_493006 := Aside0.mk (Kd.R_below (by (with_reducible repeat (first | apply Kd.R_alloc | apply Kd.R_drewN | apply Kd.R_drew)); exact HO_493006.out) hb); replace HO_512003 := Aside0.mk (Kd.R_below (by (with_reducible repeat (first | apply Kd.R_alloc | apply Kd.R_drewN | apply Kd.R_drew)); exact HO_512003.out) hb); replace HO_512004 := Aside0.mk (Kd.R_below (by (with_reducible repeat (first | apply Kd.R_alloc | apply Kd.R_drewN | apply Kd.R_drew)); exact HO_512004.out) hb); replace HO_512006 := Aside0.mk (Kd.R_below (by (with_reducible repeat (first | apply Kd.R_alloc | apply Kd.R_drewN | apply Kd.R_drew)); exact HO_512006.out) hb); replace ac := Aside0.mk (ka4b4.q ac.out hb rfl); replace ad := Aside0.mk (ka4b4.q ad.out hb rfl); replace ae := Aside0.mk (ka4b4.q ae.out hb rfl); replace am := Aside0.mk (ka4b4.q am.out hb rfl); replace HB := Aside0.mk (below_step (by repeat (first | (with_reducible first | exact HB.out | apply below_alloc | apply pw_below_drewN | apply below_drew1 | refine below_set ?_ ah.out | refine below_set ?_ ai.out | refine below_set ?_ ao.out | refine below_set ?_ dm.out) | exact HB.out)) hb); (try clear hb); (try clear dw); (try clear hk); (try clear hi)) | (go_at_call 10; (with_reducible refine (whirligiglaw09_lives.calls k2  t521 _ A77.out).mono ?_); rintro e w84 ⟨rfl, hb⟩; replace HO_7 := Aside0.mk (Kd.R_below (by (with_reducible repeat (first | apply Kd.R_alloc | apply Kd.R_drewN | apply Kd.R_drew)); exact HO_7.out) hb); replace HO_493003 := Aside0.mk (Kd.R_below (by (with_reducible repeat (first | apply Kd.R_alloc | apply Kd.R_drewN | apply Kd.R_drew)); exact HO_493003.out) hb); replace HO_493004 := Aside0.mk (Kd.R_below (by (with_reducible repeat (first | apply Kd.R_alloc | apply Kd.R_drewN | apply Kd.R_drew)); exact HO_493004.out) hb); replace HO_493006 := Aside0.mk (Kd.R_below (by (with_reducible repeat (first | apply Kd.R_alloc | apply Kd.R_drewN | apply Kd.R_drew)); exact HO_493006.out) hb); replace HO_512003 := Aside0.mk (Kd.R_below (by (with_reducible repeat (first | apply Kd.R_alloc | apply Kd.R_drewN | apply Kd.R_drew)); exact HO_512003.out) hb); replace HO_512004 := Aside0.mk (Kd.R_below (by (with_reducible repeat (first | apply Kd.R_alloc | apply Kd.R_drewN | apply Kd.R_drew)); exact HO_512004.out) hb); replace HO_512006 := Aside0.mk (Kd.R_below (by (with_reducible repeat (first | apply Kd.R_alloc | apply Kd.R_drewN | apply Kd.R_drew)); exact HO_512006.out) hb); replace ac := Aside0.mk (ka4b4.q ac.out hb rfl); replace ad := Aside0.mk (ka4b4.q ad.out hb rfl); replace ae := Aside0.mk (ka4b4.q ae.out hb rfl); replace am := Aside0.mk (ka4b4.q am.out hb rfl); replace HB := Aside0.mk (below_step (by repeat (first | (with_reducible first | exact HB.out | apply below_alloc | apply pw_below_drewN | apply below_drew1 | refine below_set ?_ ah.out | refine below_set ?_ ai.out | refine below_set ?_ ao.out | refine below_set ?_ dm.out) | exact HB.out)) hb); (try clear hb); (try clear dw); (try clear hk); (try clear hi)))
          go_ret
          exact ⟨by first | rfl | (simp [errW_none, errW_some] <;> rfl) | (simp [*, errW_none, errW_some] <;> rfl), by repeat (first | (with_reducible first | exact HB.out | apply below_alloc | apply pw_below_drewN | apply below_drew1 | refine below_set ?_ ah.out | refine below_set ?_ ai.out | refine below_set ?_ ao.out | refine below_set ?_ dm.out) | exact HB.out)⟩
         ·rw [if_neg c76] at H
          have c76b0 : (t520.toList == t478.toList) = false := beq_eq_false_iff_ne.mpr c76
          have c76b1 : (t520.toList != t478.toList) = true := bne_iff_ne.mpr c76
          obtain rfl := Option.some.inj H
          obtain ⟨Ao85, co85, eo85⟩ := Kd.R_slice HO_7.out
          subst eo85
          have hnb86 := NB473_474.out
          have hnc86 := NB474_473.out
          have hnb87 := aa.out
          have hnc87 := al.out
          have hnb88 := bq.out
          have hnc88 := NB511_473.out
          have hcz89_0 : wr.cell? ⟨af, 0, none⟩ = some (.int .i64 ax) := (blk_cell ac.out 0).trans rfl
          have hcz89_1 : wr.cell? ⟨af, 1, none⟩ = some (.int .i64 ay) := (blk_cell ac.out 1).trans rfl
          have hcz89_2 : wr.cell? ⟨af, 2, none⟩ = some (.int .i64 az) := (blk_cell ac.out 2).trans rfl
          have hcz89_3 : wr.cell? ⟨af, 3, none⟩ = some (.slice bb au.length bc) := (blk_cell ac.out 3).trans rfl
          have hcz89_4 : wr.cell? ⟨af, 4, none⟩ = some (.slice bd av.length be) := (blk_cell ac.out 4).trans rfl
          have hcz89_5 : wr.cell? ⟨af, 5, none⟩ = some (.int .i64 ba) := (blk_cell ac.out 5).trans rfl
          have hcz89_6 : wr.cell? ⟨af, 6, none⟩ = some (.slice bf aw.length bg) := (blk_cell ac.out 6).trans rfl
          have hfz89_0 := blk_frozen ac.out 0
          have hfz89_1 := blk_frozen ac.out 1
          have hfz89_2 := blk_frozen ac.out 2
          have hfz89_3 := blk_frozen ac.out 3
          have hfz89_4 := blk_frozen ac.out 4
          have hfz89_5 := blk_frozen ac.out 5
          have hfz89_6 := blk_frozen ac.out 6
          go_wp2_with (first | ((with_reducible refine gate_callee (f := 14) rfl ?_); refine goesL_ (some 59) rfl rfl Try.func14 (by kernel_rfl) rfl #[.agg #[.int .i64 ax, .int .i64 ay, .int .i64 az, .slice bb au.length bc, .slice bd av.length be, .int .i64 ba, .slice bf aw.length bg]] rfl (by (try simp only [List.map_toArray, List.map_cons, List.map_nil]); first | done | rfl) ?_; (with_reducible refine (attr_Text.calls k2 ax ay az _ _ au _ _ av ba _ _ aw t520 _ ?side1 ?side2 ?side3 ?side4 ?side5 ?side6 A75.out).mono ?_); (case side1 | side3 | side5 => repeat (first | exact (Kd.C_below db.out HB.out) | exact (Kd.C_below dd.out HB.out) | exact (Kd.C_below df.out HB.out) | (with_reducible refine Kd.C_alloc ?_ _) | (with_reducible refine Kd.C_drewN ?_ _) | (with_reducible refine Kd.C_drew ?_))); (case side2 | side4 | side6 => first | exact dc.out | exact de.out | exact dg.out); rintro e w90 ⟨rfl, hb⟩; refine ⟨_, rfl, ?_⟩; replace HO_7 := Aside0.mk (Kd.R_below (by (with_reducible repeat (first | apply Kd.R_alloc | apply Kd.R_drewN | apply Kd.R_drew)); exact HO_7.out) hb); replace HO_493003 := Aside0.mk (Kd.R_below (by (with_reducible repeat (first | apply Kd.R_alloc | apply Kd.R_drewN | apply Kd.R_drew)); exact HO_493003.out) hb); replace HO_493004 := Aside0.mk (Kd.R_below (by (with_reducible repeat (first | apply Kd.R_alloc | apply Kd.R_drewN | apply Kd.R_drew)); exact HO_493004.out) hb); replace HO_493006 := Aside0.mk (Kd.R_below (by (with_reducible repeat (first | apply Kd.R_alloc | apply Kd.R_drewN | apply Kd.R_drew)); exact HO_493006.out) hb); replace HO_512003 := Aside0.mk (Kd.R_below (by (with_reducible repeat (first | apply Kd.R_alloc | apply Kd.R_drewN | apply Kd.R_drew)); exact HO_512003.out) hb); replace HO_512004 := Aside0.mk (Kd.R_below (by (with_reducible repeat (first | apply Kd.R_alloc | apply Kd.R_drewN | apply Kd.R_drew)); exact HO_512004.out) hb); replace HO_512006 := Aside0.mk (Kd.R_below (by (with_reducible repeat (first | apply Kd.R_alloc | apply Kd.R_drewN | apply Kd.R_drew)); exact HO_512006.out) hb); replace ac := Aside0.mk (ka4b4.q ac.out hb rfl); replace ad := Aside0.mk (ka4b4.q ad.out hb rfl); replace ae := Aside0.mk (ka4b4.q ae.out hb rfl); replace am := Aside0.mk (ka4b4.q am.out hb rfl); replace HB := Aside0.mk (below_step (by repeat (first | (with_reducible first | exact HB.out | apply below_alloc | apply pw_below_drewN | apply below_drew1 | refine below_set ?_ ah.out | refine below_set ?_ ai.out | refine below_set ?_ ao.out | refine below_set ?_ dm.out) | exact HB.out)) hb); (try clear hb); (try clear dw); (try clear hk); (try clear hi)))
          go_ret
          exact ⟨by first | rfl | (simp [errW_none, errW_some] <;> rfl) | (simp [*, errW_none, errW_some] <;> rfl), by repeat (first | (with_reducible first | exact HB.out | apply below_alloc | apply pw_below_drewN | apply below_drew1 | refine below_set ?_ ah.out | refine below_set ?_ ai.out | refine below_set ?_ ao.out | refine below_set ?_ dm.out) | exact HB.out)⟩
     ·rw [if_neg c24] at H
      exact absurd H (by simp)
    ·replace c23 := Bool.eq_false_iff.mpr c23
     subst c23
     have H1 : (some false) = some r := by rw [if_neg (show ¬ (false = true) by decide)] at H; exact H
     clear H
     have H := H1
     clear H1
     obtain rfl := Option.some.inj H
     try go_wp2
     replace ac := Aside0.mk (blk_drew ac.out)
     replace ad := Aside0.mk (blk_drew ad.out)
     replace HB := Aside0.mk (below_drew1 HB.out)
     refine start_ (n := 7) (S := ka4b4.S0 af (.int .i64 ax) (.int .i64 ay) (.int .i64 az) (.slice bb au.length bc) (.slice bd av.length be) (.int .i64 ba) (.slice bf aw.length bg)) (ds := []) #[false, false, false, false, false, false, false] (by kernel_rfl) rfl rfl (ka4b4.b7e ac.out) (fun hHeld => ?_)
     generalize wc.drew = w91 at ac ad HB hHeld ⊢
     refine take_ (i := 0) (N := some 20) (v := ?_) (a' := ?_) #[true, false, false, false, false, false, false] rfl rfl (by kernel_rfl) (fun _ _ _ h => h) (Or.inl ⟨by rfl, ?_⟩) hHeld ?_ ?_
     rotate_left
     ·rintro w' ⟨s0, s1, s2, s3, s4, s5, s6⟩
      go_simp
      with_reducible rfl
     rotate_left
     ·simp only [Act.put, List.setIfInBounds_toArray, List.set_cons_zero, List.set_cons_succ, i64_w, i32_w]
      rfl
     refine take_ (i := 2) (N := some 22) (v := ?_) (a' := ?_) #[true, false, true, false, false, false, false] rfl rfl (by kernel_rfl) (fun _ _ _ h => h) (Or.inl ⟨by rfl, ?_⟩) hHeld ?_ ?_
     rotate_left
     ·rintro w' ⟨s0, s1, s2, s3, s4, s5, s6⟩
      go_simp
      with_reducible rfl
     rotate_left
     ·simp only [Act.put, List.setIfInBounds_toArray, List.set_cons_zero, List.set_cons_succ, i64_w, i32_w]
      rfl
     refine join_ (σ := Value × Value × Value × Nat) 2 #[true, true, true, true, true, false, false] (fun s_ => [(21, .string t478), (23, .agg #[.int .i64 t479, .int .i64 t480, .int .i64 t481, s_.1, s_.2.1, .int .i64 t488, s_.2.2.1]), (6, .pointer (some ⟨s_.2.2.2, 0, none⟩))]) (fun s_ w' => (w'.cell? ⟨af, 0, none⟩ = some (.int .i64 ax) ∧ w'.cell? ⟨af, 1, none⟩ = some (.int .i64 ay) ∧ w'.cell? ⟨af, 2, none⟩ = some (.int .i64 az) ∧ w'.cell? ⟨af, 3, none⟩ = some (.slice bb au.length bc) ∧ w'.cell? ⟨af, 4, none⟩ = some (.slice bd av.length be) ∧ w'.cell? ⟨af, 5, none⟩ = some (.int .i64 ba) ∧ w'.cell? ⟨af, 6, none⟩ = some (.slice bf aw.length bg)) ∧ (Kd.R (Kd.int .i64) 3 w' w.heap.size (fun k_ => some k_ ≠ (s_.2.2.1 : Value).ownBlock) s_.1 t482) ∧ (Kd.R k63 63 w' w.heap.size (fun _ => True) s_.2.1 t485) ∧ (Kd.R (Kd.int .i64) 3 w' w.heap.size (fun k_ => some k_ ≠ (s_.1 : Value).ownBlock) s_.2.2.1 t489) ∧ (w'.heap[af]? = some (.cells #[.int .i64 ax, .int .i64 ay, .int .i64 az, .slice bb au.length bc, .slice bd av.length be, .int .i64 ba, .slice bf aw.length bg] 30 (0, 0))) ∧ (w'.heap[aj]? = some (.cells #[.int .i64 bk, .int .i64 bl, .int .i64 bm, .slice bu bi.length bv, .slice bw bj.length bx, .bool bn, .slice b4 bh.length bz] 37 (0, 0))) ∧ (w'.heap[s_.2.2.2]? = some (.cells #[.int .i64 0, .int .i64 0, .int .i64 0, .slice none 0 0, .slice none 0 0, .int .i64 0, .slice none 0 0] 30 (0, 0))) ∧ (w.heap.size ≤ s_.2.2.2) ∧ (w.heap.size ≤ s_.2.2.2) ∧ (af ≠ s_.2.2.2) ∧ (s_.2.2.2 ≠ af) ∧ (aj ≠ s_.2.2.2) ∧ (s_.2.2.2 ≠ aj) ∧ (Below w.heap.size w w')) ?_ ?_
     rotate_left
     ·intro hCont
      refine two_ (i := 1) (j := 4) (Ni := some 21) (Nj := some 6) #[true, true, true, false, false, false, false] #[true, false, true, false, true, false, false] rfl rfl rfl rfl (by kernel_rfl) (by decide) (by decide) (fun K hK => ?_) (fun K hK => ?_)
      ·skip
       refine goes_ Try.func14 (by kernel_rfl) rfl #[.agg #[.int .i64 ax, .int .i64 ay, .int .i64 az, .slice bb au.length bc, .slice bd av.length be, .int .i64 ba, .slice bf aw.length bg]] (by rfl) rfl rfl (by (try simp only [List.map_toArray, List.map_cons, List.map_nil]); first | done | rfl) ?_
       with_reducible refine (attr_Text.calls dx ax ay az _ _ au _ _ av ba _ _ aw t478 _ ?side1 ?side2 ?side3 ?side4 ?side5 ?side6 A20.out).mono ?_
       (case side1 | side3 | side5 => repeat (first | exact (Kd.C_below db.out HB.out) | exact (Kd.C_below dd.out HB.out) | exact (Kd.C_below df.out HB.out) | (with_reducible refine Kd.C_alloc ?_ _) | (with_reducible refine Kd.C_drewN ?_ _) | (with_reducible refine Kd.C_drew ?_)))
       (case side2 | side4 | side6 => first | exact dc.out | exact de.out | exact dg.out)
       rintro e w92 ⟨rfl, hb⟩
       refine ⟨_, rfl, ?_⟩
       replace ac := Aside0.mk (ka4b4.q ac.out hb rfl)
       replace ad := Aside0.mk (ka4b4.q ad.out hb rfl)
       replace HB := Aside0.mk (below_step (by repeat (first | (with_reducible first | exact HB.out | apply below_alloc | apply pw_below_drewN | apply below_drew1 | refine below_set ?_ ah.out | refine below_set ?_ ai.out) | exact HB.out)) hb)
       (try clear hb)
       (try clear dw)
       (try clear hk)
       (try clear hi)
       refine hK.out _ _ (ka4b4.b7e ac.out) (fun hHeld => ?_)
       clear hK K
       refine norm_ (a' := ?_) ?_ ?_
       rotate_left
       ·show Act.put _ (some 21) _ = _
        simp only [Act.put, List.setIfInBounds_toArray, List.set_cons_zero, List.set_cons_succ, i64_w, i32_w]
        rfl
       refine two_ (i := 3) (j := 4) (Ni := some 23) (Nj := some 6) #[true, true, true, true, false, false, false] #[true, true, true, false, true, false, false] rfl rfl rfl rfl (by kernel_rfl) (by decide) (by decide) (fun K hK => ?_) (fun K hK => ?_)
       ·skip
        refine goes_ Try.func25 (by kernel_rfl) rfl #[.agg #[.int .i64 ax, .int .i64 ay, .int .i64 az, .slice bb au.length bc, .slice bd av.length be, .int .i64 ba, .slice bf aw.length bg]] (by rfl) rfl rfl (by (try simp only [List.map_toArray, List.map_cons, List.map_nil]); first | done | rfl) ?_
        with_reducible refine (attr_Copy.calls ax ay az _ _ au _ _ av ba _ _ aw t479 t480 t481 t482 t485 t488 t489 _ ?side1 ?side2 ?side3 ?side4 ?side5 ?side6 A21.out).mono ?_
        (case side1 | side3 | side5 => repeat (first | exact (Kd.C_below db.out HB.out) | exact (Kd.C_below dd.out HB.out) | exact (Kd.C_below df.out HB.out) | (with_reducible refine Kd.C_alloc ?_ _) | (with_reducible refine Kd.C_drewN ?_ _) | (with_reducible refine Kd.C_drew ?_)))
        (case side2 | side4 | side6 => first | exact dc.out | exact de.out | exact dg.out)
        rintro e w93 ⟨v483, v486, v490, rfl, ho0, ho1, ho2, hb⟩
        refine ⟨_, rfl, ?_⟩
        have ap := Aside0.mk (Kd.R_lower ho0 (below_size (by repeat (first | (with_reducible first | exact HB.out | apply below_alloc | apply pw_below_drewN | apply below_drew1 | refine below_set ?_ ah.out | refine below_set ?_ ai.out) | exact HB.out))))
        have ar := Aside0.mk (Kd.R_lower ho1 (below_size (by repeat (first | (with_reducible first | exact HB.out | apply below_alloc | apply pw_below_drewN | apply below_drew1 | refine below_set ?_ ah.out | refine below_set ?_ ai.out) | exact HB.out))))
        have aq := Aside0.mk (Kd.R_lower ho2 (below_size (by repeat (first | (with_reducible first | exact HB.out | apply below_alloc | apply pw_below_drewN | apply below_drew1 | refine below_set ?_ ah.out | refine below_set ?_ ai.out) | exact HB.out))))
        replace ac := Aside0.mk (ka4b4.q ac.out hb rfl)
        replace ad := Aside0.mk (ka4b4.q ad.out hb rfl)
        replace HB := Aside0.mk (below_step (by repeat (first | (with_reducible first | exact HB.out | apply below_alloc | apply pw_below_drewN | apply below_drew1 | refine below_set ?_ ah.out | refine below_set ?_ ai.out) | exact HB.out)) hb)
        (try clear hb)
        (try clear dw)
        (try clear hk)
        (try clear hi)
        (try clear ho0)
        (try clear ho1)
        (try clear ho2)
        refine hK.out _ _ (ka4b4.b7e ac.out) (fun hHeld => ?_)
        clear hK K
        refine norm_ (a' := ?_) ?_ ?_
        rotate_left
        ·show Act.put _ (some 23) _ = _
         simp only [Act.put, List.setIfInBounds_toArray, List.set_cons_zero, List.set_cons_succ, i64_w, i32_w]
         rfl
        refine one_ (i := 4) (N := some 6) #[true, true, true, true, true, false, false] rfl rfl (by kernel_rfl) (by decide) (fun K hK => ?_)
        refine box_step ?hg (N := 6) ?hd (cs := #[.int .i64 0, .int .i64 0, .int .i64 0, .slice none 0 0, .slice none 0 0, .int .i64 0, .slice none 0 0]) (t := 30) ?hr ?_; (case hd => rfl); (case hg => rfl); (case hr => first | (go_simp; done) | (go_simp; rfl))
        intro ab hg w94 hbox hb
        have n0_ := Aside0.mk (Kd.R_below (by (with_reducible repeat (first | apply Kd.R_alloc | apply Kd.R_drewN | apply Kd.R_drew)); exact ap.out) hb)
        have n1_ := Aside0.mk (Kd.R_below (by (with_reducible repeat (first | apply Kd.R_alloc | apply Kd.R_drewN | apply Kd.R_drew)); exact ar.out) hb)
        have n2_ := Aside0.mk (Kd.R_below (by (with_reducible repeat (first | apply Kd.R_alloc | apply Kd.R_drewN | apply Kd.R_drew)); exact aq.out) hb)
        have n3_ := Aside0.mk (ka4b4.q ac.out hb rfl)
        have n4_ := Aside0.mk (ka4b4.q ad.out hb rfl)
        have n5_ := Aside0.mk (below_step (by repeat (first | (with_reducible first | exact HB.out | apply below_alloc | apply pw_below_drewN | apply below_drew1 | refine below_set ?_ ah.out | refine below_set ?_ ai.out) | exact HB.out)) hb)
        have n6_ := Aside0.mk (hbox)
        have n7_ := Aside0.mk ((by rw [hg]; exact (below_size (by repeat (first | (with_reducible first | exact HB.out | apply below_alloc | apply pw_below_drewN | apply below_drew1 | refine below_set ?_ ah.out | refine below_set ?_ ai.out) | exact HB.out))) : w.heap.size ≤ ab))
        have n8_ := Aside0.mk ((by rw [hg]; exact (below_size (by repeat (first | (with_reducible first | exact HB.out | apply below_alloc | apply pw_below_drewN | apply below_drew1 | refine below_set ?_ ah.out | refine below_set ?_ ai.out) | exact HB.out))) : w.heap.size ≤ ab))
        have n9_ := Aside0.mk ((by rw [hg]; exact Nat.ne_of_lt (blk_lt (g := af) (o := .cells #[.int .i64 ax, .int .i64 ay, .int .i64 az, .slice bb au.length bc, .slice bd av.length be, .int .i64 ba, .slice bf aw.length bg] 30 (0, 0)) (by (with_reducible repeat (first | refine blk_drewN ?_ _ | refine blk_drew ?_ | refine blk_alloc ?_ _)); exact ac.out)) : af ≠ ab))
        have n10_ := Aside0.mk ((by rw [hg]; exact Nat.ne_of_gt (blk_lt (g := af) (o := .cells #[.int .i64 ax, .int .i64 ay, .int .i64 az, .slice bb au.length bc, .slice bd av.length be, .int .i64 ba, .slice bf aw.length bg] 30 (0, 0)) (by (with_reducible repeat (first | refine blk_drewN ?_ _ | refine blk_drew ?_ | refine blk_alloc ?_ _)); exact ac.out)) : ab ≠ af))
        have n11_ := Aside0.mk ((by rw [hg]; exact Nat.ne_of_lt (blk_lt (g := aj) (o := .cells #[.int .i64 bk, .int .i64 bl, .int .i64 bm, .slice bu bi.length bv, .slice bw bj.length bx, .bool bn, .slice b4 bh.length bz] 37 (0, 0)) (by (with_reducible repeat (first | refine blk_drewN ?_ _ | refine blk_drew ?_ | refine blk_alloc ?_ _)); exact ad.out)) : aj ≠ ab))
        have n12_ := Aside0.mk ((by rw [hg]; exact Nat.ne_of_gt (blk_lt (g := aj) (o := .cells #[.int .i64 bk, .int .i64 bl, .int .i64 bm, .slice bu bi.length bv, .slice bw bj.length bx, .bool bn, .slice b4 bh.length bz] 37 (0, 0)) (by (with_reducible repeat (first | refine blk_drewN ?_ _ | refine blk_drew ?_ | refine blk_alloc ?_ _)); exact ad.out)) : ab ≠ aj))
        clear ap
        clear ar
        clear aq
        clear ac
        clear ad
        clear HB
        have ap := n0_
        have ar := n1_
        have aq := n2_
        have ac := n3_
        have ad := n4_
        have HB := n5_
        have ae := n6_
        have dl := n7_
        have ao := n8_
        have aa := n9_
        have al := n10_
        have ag := n11_
        have an := n12_
        clear n0_ n1_ n2_ n3_ n4_ n5_ n6_ n7_ n8_ n9_ n10_ n11_ n12_
        clear hb hbox hg
        refine hK.out _ _ (ka4b4.b7e ac.out) (fun hHeld => ?_)
        clear hK K
        refine norm_ (a' := ?_) ?_ ?_
        rotate_left
        ·show Act.put _ (some 6) _ = _
         simp only [Act.put, List.setIfInBounds_toArray, List.set_cons_zero, List.set_cons_succ, i64_w, i32_w]
         rfl
        exact norm_ (by simp only [putAll, Act.put, List.setIfInBounds_toArray, List.set_cons_zero, List.set_cons_succ]) (hCont (v483, v486, v490, ab) _ ⟨hHeld, (by (with_reducible repeat (first | apply Kd.R_alloc | apply Kd.R_drewN | apply Kd.R_drew)); exact ap.out), (by (with_reducible repeat (first | apply Kd.R_alloc | apply Kd.R_drewN | apply Kd.R_drew)); exact ar.out), (by (with_reducible repeat (first | apply Kd.R_alloc | apply Kd.R_drewN | apply Kd.R_drew)); exact aq.out), (by (with_reducible repeat (first | refine blk_drewN ?_ _ | refine blk_drew ?_ | refine blk_alloc ?_ _)); exact ac.out), (by (with_reducible repeat (first | refine blk_drewN ?_ _ | refine blk_drew ?_ | refine blk_alloc ?_ _)); exact ad.out), (by (with_reducible repeat (first | refine blk_drewN ?_ _ | refine blk_drew ?_ | refine blk_alloc ?_ _)); exact ae.out), dl.out, ao.out, aa.out, al.out, ag.out, an.out, (by repeat (first | (with_reducible first | exact HB.out | apply below_alloc | apply pw_below_drewN | apply below_drew1 | refine below_set ?_ ah.out | refine below_set ?_ ai.out | refine below_set ?_ ao.out) | exact HB.out))⟩)
       ·skip
        refine box_step ?hg (N := 6) ?hd (cs := #[.int .i64 0, .int .i64 0, .int .i64 0, .slice none 0 0, .slice none 0 0, .int .i64 0, .slice none 0 0]) (t := 30) ?hr ?_; (case hd => rfl); (case hg => rfl); (case hr => first | (go_simp; done) | (go_simp; rfl))
        intro ab hg w93 hbox hb
        have n0_ := Aside0.mk (ka4b4.q ac.out hb rfl)
        have n1_ := Aside0.mk (ka4b4.q ad.out hb rfl)
        have n2_ := Aside0.mk (below_step (by repeat (first | (with_reducible first | exact HB.out | apply below_alloc | apply pw_below_drewN | apply below_drew1 | refine below_set ?_ ah.out | refine below_set ?_ ai.out) | exact HB.out)) hb)
        have n3_ := Aside0.mk (hbox)
        have n4_ := Aside0.mk ((by rw [hg]; exact (below_size (by repeat (first | (with_reducible first | exact HB.out | apply below_alloc | apply pw_below_drewN | apply below_drew1 | refine below_set ?_ ah.out | refine below_set ?_ ai.out) | exact HB.out))) : w.heap.size ≤ ab))
        have n5_ := Aside0.mk ((by rw [hg]; exact (below_size (by repeat (first | (with_reducible first | exact HB.out | apply below_alloc | apply pw_below_drewN | apply below_drew1 | refine below_set ?_ ah.out | refine below_set ?_ ai.out) | exact HB.out))) : w.heap.size ≤ ab))
        have n6_ := Aside0.mk ((by rw [hg]; exact Nat.ne_of_lt (blk_lt (g := af) (o := .cells #[.int .i64 ax, .int .i64 ay, .int .i64 az, .slice bb au.length bc, .slice bd av.length be, .int .i64 ba, .slice bf aw.length bg] 30 (0, 0)) (by (with_reducible repeat (first | refine blk_drewN ?_ _ | refine blk_drew ?_ | refine blk_alloc ?_ _)); exact ac.out)) : af ≠ ab))
        have n7_ := Aside0.mk ((by rw [hg]; exact Nat.ne_of_gt (blk_lt (g := af) (o := .cells #[.int .i64 ax, .int .i64 ay, .int .i64 az, .slice bb au.length bc, .slice bd av.length be, .int .i64 ba, .slice bf aw.length bg] 30 (0, 0)) (by (with_reducible repeat (first | refine blk_drewN ?_ _ | refine blk_drew ?_ | refine blk_alloc ?_ _)); exact ac.out)) : ab ≠ af))
        have n8_ := Aside0.mk ((by rw [hg]; exact Nat.ne_of_lt (blk_lt (g := aj) (o := .cells #[.int .i64 bk, .int .i64 bl, .int .i64 bm, .slice bu bi.length bv, .slice bw bj.length bx, .bool bn, .slice b4 bh.length bz] 37 (0, 0)) (by (with_reducible repeat (first | refine blk_drewN ?_ _ | refine blk_drew ?_ | refine blk_alloc ?_ _)); exact ad.out)) : aj ≠ ab))
        have n9_ := Aside0.mk ((by rw [hg]; exact Nat.ne_of_gt (blk_lt (g := aj) (o := .cells #[.int .i64 bk, .int .i64 bl, .int .i64 bm, .slice bu bi.length bv, .slice bw bj.length bx, .bool bn, .slice b4 bh.length bz] 37 (0, 0)) (by (with_reducible repeat (first | refine blk_drewN ?_ _ | refine blk_drew ?_ | refine blk_alloc ?_ _)); exact ad.out)) : ab ≠ aj))
        clear ac
        clear ad
        clear HB
        have ac := n0_
        have ad := n1_
        have HB := n2_
        have ae := n3_
        have dl := n4_
        have ao := n5_
        have aa := n6_
        have al := n7_
        have ag := n8_
        have an := n9_
        clear n0_ n1_ n2_ n3_ n4_ n5_ n6_ n7_ n8_ n9_
        clear hb hbox hg
        refine hK.out _ _ (ka4b4.b7e ac.out) (fun hHeld => ?_)
        clear hK K
        refine norm_ (a' := ?_) ?_ ?_
        rotate_left
        ·show Act.put _ (some 6) _ = _
         simp only [Act.put, List.setIfInBounds_toArray, List.set_cons_zero, List.set_cons_succ, i64_w, i32_w]
         rfl
        refine one_ (i := 3) (N := some 23) #[true, true, true, true, true, false, false] rfl rfl (by kernel_rfl) (by decide) (fun K hK => ?_)
        refine goes_ Try.func25 (by kernel_rfl) rfl #[.agg #[.int .i64 ax, .int .i64 ay, .int .i64 az, .slice bb au.length bc, .slice bd av.length be, .int .i64 ba, .slice bf aw.length bg]] (by rfl) rfl rfl (by (try simp only [List.map_toArray, List.map_cons, List.map_nil]); first | done | rfl) ?_
        with_reducible refine (attr_Copy.calls ax ay az _ _ au _ _ av ba _ _ aw t479 t480 t481 t482 t485 t488 t489 _ ?side1 ?side2 ?side3 ?side4 ?side5 ?side6 A21.out).mono ?_
        (case side1 | side3 | side5 => repeat (first | exact (Kd.C_below db.out HB.out) | exact (Kd.C_below dd.out HB.out) | exact (Kd.C_below df.out HB.out) | (with_reducible refine Kd.C_alloc ?_ _) | (with_reducible refine Kd.C_drewN ?_ _) | (with_reducible refine Kd.C_drew ?_)))
        (case side2 | side4 | side6 => first | exact dc.out | exact de.out | exact dg.out)
        rintro e w94 ⟨v483, v486, v490, rfl, ho0, ho1, ho2, hb⟩
        refine ⟨_, rfl, ?_⟩
        have ap := Aside0.mk (Kd.R_lower ho0 (below_size (by repeat (first | (with_reducible first | exact HB.out | apply below_alloc | apply pw_below_drewN | apply below_drew1 | refine below_set ?_ ah.out | refine below_set ?_ ai.out | refine below_set ?_ ao.out) | exact HB.out))))
        have ar := Aside0.mk (Kd.R_lower ho1 (below_size (by repeat (first | (with_reducible first | exact HB.out | apply below_alloc | apply pw_below_drewN | apply below_drew1 | refine below_set ?_ ah.out | refine below_set ?_ ai.out | refine below_set ?_ ao.out) | exact HB.out))))
        have aq := Aside0.mk (Kd.R_lower ho2 (below_size (by repeat (first | (with_reducible first | exact HB.out | apply below_alloc | apply pw_below_drewN | apply below_drew1 | refine below_set ?_ ah.out | refine below_set ?_ ai.out | refine below_set ?_ ao.out) | exact HB.out))))
        replace ac := Aside0.mk (ka4b4.q ac.out hb rfl)
        replace ad := Aside0.mk (ka4b4.q ad.out hb rfl)
        replace ae := Aside0.mk (ka4b4.q ae.out hb rfl)
        replace HB := Aside0.mk (below_step (by repeat (first | (with_reducible first | exact HB.out | apply below_alloc | apply pw_below_drewN | apply below_drew1 | refine below_set ?_ ah.out | refine below_set ?_ ai.out | refine below_set ?_ ao.out) | exact HB.out)) hb)
        (try clear hb)
        (try clear dw)
        (try clear hk)
        (try clear hi)
        (try clear ho0)
        (try clear ho1)
        (try clear ho2)
        refine hK.out _ _ (ka4b4.b7e ac.out) (fun hHeld => ?_)
        clear hK K
        refine norm_ (a' := ?_) ?_ ?_
        rotate_left
        ·show Act.put _ (some 23) _ = _
         simp only [Act.put, List.setIfInBounds_toArray, List.set_cons_zero, List.set_cons_succ, i64_w, i32_w]
         rfl
        exact norm_ (by simp only [putAll, Act.put, List.setIfInBounds_toArray, List.set_cons_zero, List.set_cons_succ]) (hCont (v483, v486, v490, ab) _ ⟨hHeld, (by (with_reducible repeat (first | apply Kd.R_alloc | apply Kd.R_drewN | apply Kd.R_drew)); exact ap.out), (by (with_reducible repeat (first | apply Kd.R_alloc | apply Kd.R_drewN | apply Kd.R_drew)); exact ar.out), (by (with_reducible repeat (first | apply Kd.R_alloc | apply Kd.R_drewN | apply Kd.R_drew)); exact aq.out), (by (with_reducible repeat (first | refine blk_drewN ?_ _ | refine blk_drew ?_ | refine blk_alloc ?_ _)); exact ac.out), (by (with_reducible repeat (first | refine blk_drewN ?_ _ | refine blk_drew ?_ | refine blk_alloc ?_ _)); exact ad.out), (by (with_reducible repeat (first | refine blk_drewN ?_ _ | refine blk_drew ?_ | refine blk_alloc ?_ _)); exact ae.out), dl.out, ao.out, aa.out, al.out, ag.out, an.out, (by repeat (first | (with_reducible first | exact HB.out | apply below_alloc | apply pw_below_drewN | apply below_drew1 | refine below_set ?_ ah.out | refine below_set ?_ ai.out | refine below_set ?_ ao.out) | exact HB.out))⟩)
      ·skip
       refine box_step ?hg (N := 6) ?hd (cs := #[.int .i64 0, .int .i64 0, .int .i64 0, .slice none 0 0, .slice none 0 0, .int .i64 0, .slice none 0 0]) (t := 30) ?hr ?_; (case hd => rfl); (case hg => rfl); (case hr => first | (go_simp; done) | (go_simp; rfl))
       intro ab hg w92 hbox hb
       have n0_ := Aside0.mk (ka4b4.q ac.out hb rfl)
       have n1_ := Aside0.mk (ka4b4.q ad.out hb rfl)
       have n2_ := Aside0.mk (below_step (by repeat (first | (with_reducible first | exact HB.out | apply below_alloc | apply pw_below_drewN | apply below_drew1 | refine below_set ?_ ah.out | refine below_set ?_ ai.out) | exact HB.out)) hb)
       have n3_ := Aside0.mk (hbox)
       have n4_ := Aside0.mk ((by rw [hg]; exact (below_size (by repeat (first | (with_reducible first | exact HB.out | apply below_alloc | apply pw_below_drewN | apply below_drew1 | refine below_set ?_ ah.out | refine below_set ?_ ai.out) | exact HB.out))) : w.heap.size ≤ ab))
       have n5_ := Aside0.mk ((by rw [hg]; exact (below_size (by repeat (first | (with_reducible first | exact HB.out | apply below_alloc | apply pw_below_drewN | apply below_drew1 | refine below_set ?_ ah.out | refine below_set ?_ ai.out) | exact HB.out))) : w.heap.size ≤ ab))
       have n6_ := Aside0.mk ((by rw [hg]; exact Nat.ne_of_lt (blk_lt (g := af) (o := .cells #[.int .i64 ax, .int .i64 ay, .int .i64 az, .slice bb au.length bc, .slice bd av.length be, .int .i64 ba, .slice bf aw.length bg] 30 (0, 0)) (by (with_reducible repeat (first | refine blk_drewN ?_ _ | refine blk_drew ?_ | refine blk_alloc ?_ _)); exact ac.out)) : af ≠ ab))
       have n7_ := Aside0.mk ((by rw [hg]; exact Nat.ne_of_gt (blk_lt (g := af) (o := .cells #[.int .i64 ax, .int .i64 ay, .int .i64 az, .slice bb au.length bc, .slice bd av.length be, .int .i64 ba, .slice bf aw.length bg] 30 (0, 0)) (by (with_reducible repeat (first | refine blk_drewN ?_ _ | refine blk_drew ?_ | refine blk_alloc ?_ _)); exact ac.out)) : ab ≠ af))
       have n8_ := Aside0.mk ((by rw [hg]; exact Nat.ne_of_lt (blk_lt (g := aj) (o := .cells #[.int .i64 bk, .int .i64 bl, .int .i64 bm, .slice bu bi.length bv, .slice bw bj.length bx, .bool bn, .slice b4 bh.length bz] 37 (0, 0)) (by (with_reducible repeat (first | refine blk_drewN ?_ _ | refine blk_drew ?_ | refine blk_alloc ?_ _)); exact ad.out)) : aj ≠ ab))
       have n9_ := Aside0.mk ((by rw [hg]; exact Nat.ne_of_gt (blk_lt (g := aj) (o := .cells #[.int .i64 bk, .int .i64 bl, .int .i64 bm, .slice bu bi.length bv, .slice bw bj.length bx, .bool bn, .slice b4 bh.length bz] 37 (0, 0)) (by (with_reducible repeat (first | refine blk_drewN ?_ _ | refine blk_drew ?_ | refine blk_alloc ?_ _)); exact ad.out)) : ab ≠ aj))
       clear ac
       clear ad
       clear HB
       have ac := n0_
       have ad := n1_
       have HB := n2_
       have ae := n3_
       have dl := n4_
       have ao := n5_
       have aa := n6_
       have al := n7_
       have ag := n8_
       have an := n9_
       clear n0_ n1_ n2_ n3_ n4_ n5_ n6_ n7_ n8_ n9_
       clear hb hbox hg
       refine hK.out _ _ (ka4b4.b7e ac.out) (fun hHeld => ?_)
       clear hK K
       refine norm_ (a' := ?_) ?_ ?_
       rotate_left
       ·show Act.put _ (some 6) _ = _
        simp only [Act.put, List.setIfInBounds_toArray, List.set_cons_zero, List.set_cons_succ, i64_w, i32_w]
        rfl
       refine one_ (i := 1) (N := some 21) #[true, true, true, false, true, false, false] rfl rfl (by kernel_rfl) (by decide) (fun K hK => ?_)
       refine goes_ Try.func14 (by kernel_rfl) rfl #[.agg #[.int .i64 ax, .int .i64 ay, .int .i64 az, .slice bb au.length bc, .slice bd av.length be, .int .i64 ba, .slice bf aw.length bg]] (by rfl) rfl rfl (by (try simp only [List.map_toArray, List.map_cons, List.map_nil]); first | done | rfl) ?_
       with_reducible refine (attr_Text.calls dx ax ay az _ _ au _ _ av ba _ _ aw t478 _ ?side1 ?side2 ?side3 ?side4 ?side5 ?side6 A20.out).mono ?_
       (case side1 | side3 | side5 => repeat (first | exact (Kd.C_below db.out HB.out) | exact (Kd.C_below dd.out HB.out) | exact (Kd.C_below df.out HB.out) | (with_reducible refine Kd.C_alloc ?_ _) | (with_reducible refine Kd.C_drewN ?_ _) | (with_reducible refine Kd.C_drew ?_)))
       (case side2 | side4 | side6 => first | exact dc.out | exact de.out | exact dg.out)
       rintro e w93 ⟨rfl, hb⟩
       refine ⟨_, rfl, ?_⟩
       replace ac := Aside0.mk (ka4b4.q ac.out hb rfl)
       replace ad := Aside0.mk (ka4b4.q ad.out hb rfl)
       replace ae := Aside0.mk (ka4b4.q ae.out hb rfl)
       replace HB := Aside0.mk (below_step (by repeat (first | (with_reducible first | exact HB.out | apply below_alloc | apply pw_below_drewN | apply below_drew1 | refine below_set ?_ ah.out | refine below_set ?_ ai.out | refine below_set ?_ ao.out) | exact HB.out)) hb)
       (try clear hb)
       (try clear dw)
       (try clear hk)
       (try clear hi)
       refine hK.out _ _ (ka4b4.b7e ac.out) (fun hHeld => ?_)
       clear hK K
       refine norm_ (a' := ?_) ?_ ?_
       rotate_left
       ·show Act.put _ (some 21) _ = _
        simp only [Act.put, List.setIfInBounds_toArray, List.set_cons_zero, List.set_cons_succ, i64_w, i32_w]
        rfl
       refine one_ (i := 3) (N := some 23) #[true, true, true, true, true, false, false] rfl rfl (by kernel_rfl) (by decide) (fun K hK => ?_)
       refine goes_ Try.func25 (by kernel_rfl) rfl #[.agg #[.int .i64 ax, .int .i64 ay, .int .i64 az, .slice bb au.length bc, .slice bd av.length be, .int .i64 ba, .slice bf aw.length bg]] (by rfl) rfl rfl (by (try simp only [List.map_toArray, List.map_cons, List.map_nil]); first | done | rfl) ?_
       with_reducible refine (attr_Copy.calls ax ay az _ _ au _ _ av ba _ _ aw t479 t480 t481 t482 t485 t488 t489 _ ?side1 ?side2 ?side3 ?side4 ?side5 ?side6 A21.out).mono ?_
       (case side1 | side3 | side5 => repeat (first | exact (Kd.C_below db.out HB.out) | exact (Kd.C_below dd.out HB.out) | exact (Kd.C_below df.out HB.out) | (with_reducible refine Kd.C_alloc ?_ _) | (with_reducible refine Kd.C_drewN ?_ _) | (with_reducible refine Kd.C_drew ?_)))
       (case side2 | side4 | side6 => first | exact dc.out | exact de.out | exact dg.out)
       rintro e w94 ⟨v483, v486, v490, rfl, ho0, ho1, ho2, hb⟩
       refine ⟨_, rfl, ?_⟩
       have ap := Aside0.mk (Kd.R_lower ho0 (below_size (by repeat (first | (with_reducible first | exact HB.out | apply below_alloc | apply pw_below_drewN | apply below_drew1 | refine below_set ?_ ah.out | refine below_set ?_ ai.out | refine below_set ?_ ao.out) | exact HB.out))))
       have ar := Aside0.mk (Kd.R_lower ho1 (below_size (by repeat (first | (with_reducible first | exact HB.out | apply below_alloc | apply pw_below_drewN | apply below_drew1 | refine below_set ?_ ah.out | refine below_set ?_ ai.out | refine below_set ?_ ao.out) | exact HB.out))))
       have aq := Aside0.mk (Kd.R_lower ho2 (below_size (by repeat (first | (with_reducible first | exact HB.out | apply below_alloc | apply pw_below_drewN | apply below_drew1 | refine below_set ?_ ah.out | refine below_set ?_ ai.out | refine below_set ?_ ao.out) | exact HB.out))))
       replace ac := Aside0.mk (ka4b4.q ac.out hb rfl)
       replace ad := Aside0.mk (ka4b4.q ad.out hb rfl)
       replace ae := Aside0.mk (ka4b4.q ae.out hb rfl)
       replace HB := Aside0.mk (below_step (by repeat (first | (with_reducible first | exact HB.out | apply below_alloc | apply pw_below_drewN | apply below_drew1 | refine below_set ?_ ah.out | refine below_set ?_ ai.out | refine below_set ?_ ao.out) | exact HB.out)) hb)
       (try clear hb)
       (try clear dw)
       (try clear hk)
       (try clear hi)
       (try clear ho0)
       (try clear ho1)
       (try clear ho2)
       refine hK.out _ _ (ka4b4.b7e ac.out) (fun hHeld => ?_)
       clear hK K
       refine norm_ (a' := ?_) ?_ ?_
       rotate_left
       ·show Act.put _ (some 23) _ = _
        simp only [Act.put, List.setIfInBounds_toArray, List.set_cons_zero, List.set_cons_succ, i64_w, i32_w]
        rfl
       exact norm_ (by simp only [putAll, Act.put, List.setIfInBounds_toArray, List.set_cons_zero, List.set_cons_succ]) (hCont (v483, v486, v490, ab) _ ⟨hHeld, (by (with_reducible repeat (first | apply Kd.R_alloc | apply Kd.R_drewN | apply Kd.R_drew)); exact ap.out), (by (with_reducible repeat (first | apply Kd.R_alloc | apply Kd.R_drewN | apply Kd.R_drew)); exact ar.out), (by (with_reducible repeat (first | apply Kd.R_alloc | apply Kd.R_drewN | apply Kd.R_drew)); exact aq.out), (by (with_reducible repeat (first | refine blk_drewN ?_ _ | refine blk_drew ?_ | refine blk_alloc ?_ _)); exact ac.out), (by (with_reducible repeat (first | refine blk_drewN ?_ _ | refine blk_drew ?_ | refine blk_alloc ?_ _)); exact ad.out), (by (with_reducible repeat (first | refine blk_drewN ?_ _ | refine blk_drew ?_ | refine blk_alloc ?_ _)); exact ae.out), dl.out, ao.out, aa.out, al.out, ag.out, an.out, (by repeat (first | (with_reducible first | exact HB.out | apply below_alloc | apply pw_below_drewN | apply below_drew1 | refine below_set ?_ ah.out | refine below_set ?_ ai.out | refine below_set ?_ ao.out) | exact HB.out))⟩)
     rintro ⟨v483, v486, v490, ab⟩ w95 ⟨hS_, h0_, h1_, h2_, h3_, h4_, h5_, h6_, h7_, h8_, h9_, h10_, h11_, h12_⟩
     have n0_ : Aside0 (Kd.R (Kd.int .i64) 3 w95 w.heap.size (fun k_ => some k_ ≠ (v490 : Value).ownBlock) v483 t482) := ⟨h0_⟩
     have n1_ : Aside0 (Kd.R k63 63 w95 w.heap.size (fun _ => True) v486 t485) := ⟨h1_⟩
     have n2_ : Aside0 (Kd.R (Kd.int .i64) 3 w95 w.heap.size (fun k_ => some k_ ≠ (v483 : Value).ownBlock) v490 t489) := ⟨h2_⟩
     have n3_ : Aside0 (w95.heap[af]? = some (.cells #[.int .i64 ax, .int .i64 ay, .int .i64 az, .slice bb au.length bc, .slice bd av.length be, .int .i64 ba, .slice bf aw.length bg] 30 (0, 0))) := ⟨h3_⟩
     have n4_ : Aside0 (w95.heap[aj]? = some (.cells #[.int .i64 bk, .int .i64 bl, .int .i64 bm, .slice bu bi.length bv, .slice bw bj.length bx, .bool bn, .slice b4 bh.length bz] 37 (0, 0))) := ⟨h4_⟩
     have n5_ : Aside0 (w95.heap[ab]? = some (.cells #[.int .i64 0, .int .i64 0, .int .i64 0, .slice none 0 0, .slice none 0 0, .int .i64 0, .slice none 0 0] 30 (0, 0))) := ⟨h5_⟩
     have n6_ : Aside0 (w.heap.size ≤ ab) := ⟨h6_⟩
     have n7_ : Aside0 (w.heap.size ≤ ab) := ⟨h7_⟩
     have n8_ : Aside0 (af ≠ ab) := ⟨h8_⟩
     have n9_ : Aside0 (ab ≠ af) := ⟨h9_⟩
     have n10_ : Aside0 (aj ≠ ab) := ⟨h10_⟩
     have n11_ : Aside0 (ab ≠ aj) := ⟨h11_⟩
     have n12_ : Aside0 (Below w.heap.size w w95) := ⟨h12_⟩
     clear ac
     clear ad
     clear HB
     clear h0_ h1_ h2_ h3_ h4_ h5_ h6_ h7_ h8_ h9_ h10_ h11_ h12_
     have ap := n0_
     have ar := n1_
     have aq := n2_
     have ac := n3_
     have ad := n4_
     have ae := n5_
     have dl := n6_
     have ao := n7_
     have aa := n8_
     have al := n9_
     have ag := n10_
     have an := n11_
     have HB := n12_
     clear n0_ n1_ n2_ n3_ n4_ n5_ n6_ n7_ n8_ n9_ n10_ n11_ n12_
     have hHeld : w95.cell? ⟨af, 0, none⟩ = some (.int .i64 ax) ∧ w95.cell? ⟨af, 1, none⟩ = some (.int .i64 ay) ∧ w95.cell? ⟨af, 2, none⟩ = some (.int .i64 az) ∧ w95.cell? ⟨af, 3, none⟩ = some (.slice bb au.length bc) ∧ w95.cell? ⟨af, 4, none⟩ = some (.slice bd av.length be) ∧ w95.cell? ⟨af, 5, none⟩ = some (.int .i64 ba) ∧ w95.cell? ⟨af, 6, none⟩ = some (.slice bf aw.length bg) := hS_
     obtain ⟨dv, du, eo99⟩ := Kd.R_slice ap.out
     (first | subst eo99 | (injection eo99 with f1_ f2_ f3_; have f4_ := f1_.symm; have f5_ := f3_.symm; clear f1_ f2_ f3_; subst f4_; subst f5_))
     obtain ⟨dq, dn, eo101⟩ := Kd.R_slice ar.out
     (first | subst eo101 | (injection eo101 with f1_ f2_ f3_; have f4_ := f1_.symm; have f5_ := f3_.symm; clear f1_ f2_ f3_; subst f4_; subst f5_))
     obtain ⟨dt, dr, eo104⟩ := Kd.R_slice aq.out
     (first | subst eo104 | (injection eo104 with f1_ f2_ f3_; have f4_ := f1_.symm; have f5_ := f3_.symm; clear f1_ f2_ f3_; subst f4_; subst f5_))
     refine norm_ (a' := ?_) ?_ ?_
     rotate_left
     ·simp only [putAll, Act.put, List.setIfInBounds_toArray, List.set_cons_zero, List.set_cons_succ]
      rfl
     refine pure_ (i := 5) (N := some 5) (v := ?_) (a' := ?_) #[true, true, true, true, true, true, false] rfl rfl (by kernel_rfl) (fun _ _ _ h => h) (Or.inl ⟨by rfl, ?_⟩) ?_ ?_
     rotate_left
     ·intro w'
      go_simp
      with_reducible rfl
     rotate_left
     ·simp only [Act.put, List.setIfInBounds_toArray, List.set_cons_zero, List.set_cons_succ, i64_w, i32_w]
      rfl
     refine one_ (i := 6) (N := none) #[true, true, true, true, true, true, true] rfl rfl (by kernel_rfl) (by decide) (fun K hK => ?_)
     have hs96 : w95.cell? ⟨ab, 0, none⟩ = some (.int .i64 0) := (blk_cell ae.out 0).trans rfl
     have hfs96 := blk_frozen ae.out 0
     have hns96_0 := aa.out
     have hns96_1 := ag.out
     have hms96_0 := al.out
     have hms96_1 := an.out
     have hs97 : w95.cell? ⟨ab, 1, none⟩ = some (.int .i64 0) := (blk_cell ae.out 1).trans rfl
     have hfs97 := blk_frozen ae.out 1
     have hns97_0 := aa.out
     have hns97_1 := ag.out
     have hms97_0 := al.out
     have hms97_1 := an.out
     have hs98 : w95.cell? ⟨ab, 2, none⟩ = some (.int .i64 0) := (blk_cell ae.out 2).trans rfl
     have hfs98 := blk_frozen ae.out 2
     have hns98_0 := aa.out
     have hns98_1 := ag.out
     have hms98_0 := al.out
     have hms98_1 := an.out
     have hs100 : w95.cell? ⟨ab, 3, none⟩ = some (.slice none 0 0) := (blk_cell ae.out 3).trans rfl
     have hfs100 := blk_frozen ae.out 3
     have hns100_0 := aa.out
     have hns100_1 := ag.out
     have hms100_0 := al.out
     have hms100_1 := an.out
     have hs102 : w95.cell? ⟨ab, 4, none⟩ = some (.slice none 0 0) := (blk_cell ae.out 4).trans rfl
     have hfs102 := blk_frozen ae.out 4
     have hns102_0 := aa.out
     have hns102_1 := ag.out
     have hms102_0 := al.out
     have hms102_1 := an.out
     have hs103 : w95.cell? ⟨ab, 5, none⟩ = some (.int .i64 0) := (blk_cell ae.out 5).trans rfl
     have hfs103 := blk_frozen ae.out 5
     have hns103_0 := aa.out
     have hns103_1 := ag.out
     have hms103_0 := al.out
     have hms103_1 := an.out
     have hs105 : w95.cell? ⟨ab, 6, none⟩ = some (.slice none 0 0) := (blk_cell ae.out 6).trans rfl
     have hfs105 := blk_frozen ae.out 6
     have hns105_0 := aa.out
     have hns105_1 := ag.out
     have hms105_0 := al.out
     have hms105_1 := an.out
     refine skip_ (w1 := ?_) (by rfl) rfl ?_ ?_
     rotate_left
     ·go_simp
      rfl
     refine hK.out _ _ ⟨((cell_far (p := ⟨ab, _, none⟩) aa.out _).trans (((cell_far (p := ⟨ab, _, none⟩) aa.out _).trans (((cell_far (p := ⟨ab, _, none⟩) aa.out _).trans (((cell_far (p := ⟨ab, _, none⟩) aa.out _).trans (((cell_far (p := ⟨ab, _, none⟩) aa.out _).trans (((cell_far (p := ⟨ab, _, none⟩) aa.out _).trans (((cell_far (p := ⟨ab, _, none⟩) aa.out _).trans (hHeld.1)))))))))))))), ((cell_far (p := ⟨ab, _, none⟩) aa.out _).trans (((cell_far (p := ⟨ab, _, none⟩) aa.out _).trans (((cell_far (p := ⟨ab, _, none⟩) aa.out _).trans (((cell_far (p := ⟨ab, _, none⟩) aa.out _).trans (((cell_far (p := ⟨ab, _, none⟩) aa.out _).trans (((cell_far (p := ⟨ab, _, none⟩) aa.out _).trans (((cell_far (p := ⟨ab, _, none⟩) aa.out _).trans (hHeld.2.1)))))))))))))), ((cell_far (p := ⟨ab, _, none⟩) aa.out _).trans (((cell_far (p := ⟨ab, _, none⟩) aa.out _).trans (((cell_far (p := ⟨ab, _, none⟩) aa.out _).trans (((cell_far (p := ⟨ab, _, none⟩) aa.out _).trans (((cell_far (p := ⟨ab, _, none⟩) aa.out _).trans (((cell_far (p := ⟨ab, _, none⟩) aa.out _).trans (((cell_far (p := ⟨ab, _, none⟩) aa.out _).trans (hHeld.2.2.1)))))))))))))), ((cell_far (p := ⟨ab, _, none⟩) aa.out _).trans (((cell_far (p := ⟨ab, _, none⟩) aa.out _).trans (((cell_far (p := ⟨ab, _, none⟩) aa.out _).trans (((cell_far (p := ⟨ab, _, none⟩) aa.out _).trans (((cell_far (p := ⟨ab, _, none⟩) aa.out _).trans (((cell_far (p := ⟨ab, _, none⟩) aa.out _).trans (((cell_far (p := ⟨ab, _, none⟩) aa.out _).trans (hHeld.2.2.2.1)))))))))))))), ((cell_far (p := ⟨ab, _, none⟩) aa.out _).trans (((cell_far (p := ⟨ab, _, none⟩) aa.out _).trans (((cell_far (p := ⟨ab, _, none⟩) aa.out _).trans (((cell_far (p := ⟨ab, _, none⟩) aa.out _).trans (((cell_far (p := ⟨ab, _, none⟩) aa.out _).trans (((cell_far (p := ⟨ab, _, none⟩) aa.out _).trans (((cell_far (p := ⟨ab, _, none⟩) aa.out _).trans (hHeld.2.2.2.2.1)))))))))))))), ((cell_far (p := ⟨ab, _, none⟩) aa.out _).trans (((cell_far (p := ⟨ab, _, none⟩) aa.out _).trans (((cell_far (p := ⟨ab, _, none⟩) aa.out _).trans (((cell_far (p := ⟨ab, _, none⟩) aa.out _).trans (((cell_far (p := ⟨ab, _, none⟩) aa.out _).trans (((cell_far (p := ⟨ab, _, none⟩) aa.out _).trans (((cell_far (p := ⟨ab, _, none⟩) aa.out _).trans (hHeld.2.2.2.2.2.1)))))))))))))), ((cell_far (p := ⟨ab, _, none⟩) aa.out _).trans (((cell_far (p := ⟨ab, _, none⟩) aa.out _).trans (((cell_far (p := ⟨ab, _, none⟩) aa.out _).trans (((cell_far (p := ⟨ab, _, none⟩) aa.out _).trans (((cell_far (p := ⟨ab, _, none⟩) aa.out _).trans (((cell_far (p := ⟨ab, _, none⟩) aa.out _).trans (((cell_far (p := ⟨ab, _, none⟩) aa.out _).trans (hHeld.2.2.2.2.2.2))))))))))))))⟩ (fun hHeld => ?_)
     clear hK K
     refine done_ (by kernel_rfl) ?_
     have hnb106 := al.out
     have hnc106 := aa.out
     have hnb107 := an.out
     have hnc107 := ag.out
     have hcz108_0 : w95.cell? ⟨ab, 0, none⟩ = some (.int .i64 0) := (blk_cell ae.out 0).trans rfl
     have hcz108_1 : w95.cell? ⟨ab, 1, none⟩ = some (.int .i64 0) := (blk_cell ae.out 1).trans rfl
     have hcz108_2 : w95.cell? ⟨ab, 2, none⟩ = some (.int .i64 0) := (blk_cell ae.out 2).trans rfl
     have hcz108_3 : w95.cell? ⟨ab, 3, none⟩ = some (.slice none 0 0) := (blk_cell ae.out 3).trans rfl
     have hcz108_4 : w95.cell? ⟨ab, 4, none⟩ = some (.slice none 0 0) := (blk_cell ae.out 4).trans rfl
     have hcz108_5 : w95.cell? ⟨ab, 5, none⟩ = some (.int .i64 0) := (blk_cell ae.out 5).trans rfl
     have hcz108_6 : w95.cell? ⟨ab, 6, none⟩ = some (.slice none 0 0) := (blk_cell ae.out 6).trans rfl
     have hfz108_0 := blk_frozen ae.out 0
     have hfz108_1 := blk_frozen ae.out 1
     have hfz108_2 := blk_frozen ae.out 2
     have hfz108_3 := blk_frozen ae.out 3
     have hfz108_4 := blk_frozen ae.out 4
     have hfz108_5 := blk_frozen ae.out 5
     have hfz108_6 := blk_frozen ae.out 6
     have hnb109 := NB473_474.out
     have hnc109 := NB474_473.out
     have hcz110_0 : w95.cell? ⟨af, 0, none⟩ = some (.int .i64 ax) := (blk_cell ac.out 0).trans rfl
     have hcz110_1 : w95.cell? ⟨af, 1, none⟩ = some (.int .i64 ay) := (blk_cell ac.out 1).trans rfl
     have hcz110_2 : w95.cell? ⟨af, 2, none⟩ = some (.int .i64 az) := (blk_cell ac.out 2).trans rfl
     have hcz110_3 : w95.cell? ⟨af, 3, none⟩ = some (.slice bb au.length bc) := (blk_cell ac.out 3).trans rfl
     have hcz110_4 : w95.cell? ⟨af, 4, none⟩ = some (.slice bd av.length be) := (blk_cell ac.out 4).trans rfl
     have hcz110_5 : w95.cell? ⟨af, 5, none⟩ = some (.int .i64 ba) := (blk_cell ac.out 5).trans rfl
     have hcz110_6 : w95.cell? ⟨af, 6, none⟩ = some (.slice bf aw.length bg) := (blk_cell ac.out 6).trans rfl
     have hfz110_0 := blk_frozen ac.out 0
     have hfz110_1 := blk_frozen ac.out 1
     have hfz110_2 := blk_frozen ac.out 2
     have hfz110_3 := blk_frozen ac.out 3
     have hfz110_4 := blk_frozen ac.out 4
     have hfz110_5 := blk_frozen ac.out 5
     have hfz110_6 := blk_frozen ac.out 6
     try go_wp2_with (first | ((with_reducible refine gate_callee (f := 18) rfl ?_); refine goesL_ (some 26) rfl rfl Try.func18 (by kernel_rfl) rfl #[.agg #[.int .i64 t479, .int .i64 t480, .int .i64 t481, .slice dv t482.length du, .slice dq t485.length dn, .int .i64 t488, .slice dt t489.length dr], .agg #[.int .i64 ax, .int .i64 ay, .int .i64 az, .slice bb au.length bc, .slice bd av.length be, .int .i64 ba, .slice bf aw.length bg]] rfl (by (try simp only [List.map_toArray, List.map_cons, List.map_nil]); first | done | rfl) ?_; (with_reducible refine (attr_Same.calls dx t479 t480 t481 _ _ t482 _ _ t485 t488 _ _ t489 ax ay az _ _ au _ _ av ba _ _ aw false _ ?side1 ?side2 ?side3 ?side4 ?side5 ?side6 ?side7 ?side8 ?side9 ?side10 ?side11 ?side12 A22.out).mono ?_); (case side1 => refine (Kd.R_reads' (e := 3) (base := w.heap.size) (ok := fun k_ => some k_ ≠ (.slice dt t489.length dr : Value).ownBlock) (n := t482.length) (c := du) ?_).2.2; exact (by (with_reducible repeat (first | apply Kd.R_alloc | apply Kd.R_drewN | apply Kd.R_drew)); exact (Kd.R_mono (Kd.R_far (p := ⟨ab, 6, none⟩) (Kd.R_far (p := ⟨ab, 5, none⟩) (Kd.R_far (p := ⟨ab, 4, none⟩) (Kd.R_far (p := ⟨ab, 3, none⟩) (Kd.R_far (p := ⟨ab, 2, none⟩) (Kd.R_far (p := ⟨ab, 1, none⟩) (Kd.R_far (p := ⟨ab, 0, none⟩) (Kd.R_types ap.out ae.out (by decide)) (fun _ hk => hk.2) (.int .i64 t479)) (fun _ hk => hk.2) (.int .i64 t480)) (fun _ hk => hk.2) (.int .i64 t481)) (fun _ hk => hk.2) (.slice dv t482.length du)) (fun _ hk => hk.2) (.slice dq t485.length dn)) (fun _ hk => hk.2) (.int .i64 t488)) (fun _ hk => hk.2) (.slice dt t489.length dr)) (fun _ h_ => h_.1)))); (case side2 | side4 | side6 | side8 | side10 | side12 => first | exact (Kd.R_reads' ap.out).2.1 | exact (Kd.R_reads' ar.out).2.1 | exact (Kd.R_reads' aq.out).2.1 | exact dc.out | exact de.out | exact dg.out); (case side3 => refine (Kd.R_reads' (e := 63) (base := w.heap.size) (ok := fun k_ => True) (n := t485.length) (c := dn) ?_).2.2; exact (by (with_reducible repeat (first | apply Kd.R_alloc | apply Kd.R_drewN | apply Kd.R_drew)); exact (Kd.R_mono (Kd.R_far (p := ⟨ab, 6, none⟩) (Kd.R_far (p := ⟨ab, 5, none⟩) (Kd.R_far (p := ⟨ab, 4, none⟩) (Kd.R_far (p := ⟨ab, 3, none⟩) (Kd.R_far (p := ⟨ab, 2, none⟩) (Kd.R_far (p := ⟨ab, 1, none⟩) (Kd.R_far (p := ⟨ab, 0, none⟩) (Kd.R_types ar.out ae.out (by decide)) (fun _ hk => hk.2) (.int .i64 t479)) (fun _ hk => hk.2) (.int .i64 t480)) (fun _ hk => hk.2) (.int .i64 t481)) (fun _ hk => hk.2) (.slice dv t482.length du)) (fun _ hk => hk.2) (.slice dq t485.length dn)) (fun _ hk => hk.2) (.int .i64 t488)) (fun _ hk => hk.2) (.slice dt t489.length dr)) (fun _ h_ => h_.1)))); (case side5 => refine (Kd.R_reads' (e := 3) (base := w.heap.size) (ok := fun k_ => some k_ ≠ (.slice dv t482.length du : Value).ownBlock) (n := t489.length) (c := dr) ?_).2.2; exact (by (with_reducible repeat (first | apply Kd.R_alloc | apply Kd.R_drewN | apply Kd.R_drew)); exact (Kd.R_mono (Kd.R_far (p := ⟨ab, 6, none⟩) (Kd.R_far (p := ⟨ab, 5, none⟩) (Kd.R_far (p := ⟨ab, 4, none⟩) (Kd.R_far (p := ⟨ab, 3, none⟩) (Kd.R_far (p := ⟨ab, 2, none⟩) (Kd.R_far (p := ⟨ab, 1, none⟩) (Kd.R_far (p := ⟨ab, 0, none⟩) (Kd.R_types aq.out ae.out (by decide)) (fun _ hk => hk.2) (.int .i64 t479)) (fun _ hk => hk.2) (.int .i64 t480)) (fun _ hk => hk.2) (.int .i64 t481)) (fun _ hk => hk.2) (.slice dv t482.length du)) (fun _ hk => hk.2) (.slice dq t485.length dn)) (fun _ hk => hk.2) (.int .i64 t488)) (fun _ hk => hk.2) (.slice dt t489.length dr)) (fun _ h_ => h_.1)))); (case side7 => exact Kd.C_below db.out (by repeat (first | (with_reducible first | exact HB.out | apply below_alloc | apply pw_below_drewN | apply below_drew1 | refine below_set ?_ ah.out | refine below_set ?_ ai.out | refine below_set ?_ ao.out) | exact HB.out))); (case side9 => exact Kd.C_below dd.out (by repeat (first | (with_reducible first | exact HB.out | apply below_alloc | apply pw_below_drewN | apply below_drew1 | refine below_set ?_ ah.out | refine below_set ?_ ai.out | refine below_set ?_ ao.out) | exact HB.out))); (case side11 => exact Kd.C_below df.out (by repeat (first | (with_reducible first | exact HB.out | apply below_alloc | apply pw_below_drewN | apply below_drew1 | refine below_set ?_ ah.out | refine below_set ?_ ai.out | refine below_set ?_ ao.out) | exact HB.out))); rintro e w111 ⟨rfl, hb⟩; refine ⟨_, rfl, ?_⟩; replace ap := Aside0.mk (Kd.R_below (by (with_reducible repeat (first | apply Kd.R_alloc | apply Kd.R_drewN | apply Kd.R_drew)); exact (Kd.R_mono (Kd.R_far (p := ⟨ab, 6, none⟩) (Kd.R_far (p := ⟨ab, 5, none⟩) (Kd.R_far (p := ⟨ab, 4, none⟩) (Kd.R_far (p := ⟨ab, 3, none⟩) (Kd.R_far (p := ⟨ab, 2, none⟩) (Kd.R_far (p := ⟨ab, 1, none⟩) (Kd.R_far (p := ⟨ab, 0, none⟩) (Kd.R_types ap.out ae.out (by decide)) (fun _ hk => hk.2) (.int .i64 t479)) (fun _ hk => hk.2) (.int .i64 t480)) (fun _ hk => hk.2) (.int .i64 t481)) (fun _ hk => hk.2) (.slice dv t482.length du)) (fun _ hk => hk.2) (.slice dq t485.length dn)) (fun _ hk => hk.2) (.int .i64 t488)) (fun _ hk => hk.2) (.slice dt t489.length dr)) (fun _ h_ => h_.1))) hb); replace ar := Aside0.mk (Kd.R_below (by (with_reducible repeat (first | apply Kd.R_alloc | apply Kd.R_drewN | apply Kd.R_drew)); exact (Kd.R_mono (Kd.R_far (p := ⟨ab, 6, none⟩) (Kd.R_far (p := ⟨ab, 5, none⟩) (Kd.R_far (p := ⟨ab, 4, none⟩) (Kd.R_far (p := ⟨ab, 3, none⟩) (Kd.R_far (p := ⟨ab, 2, none⟩) (Kd.R_far (p := ⟨ab, 1, none⟩) (Kd.R_far (p := ⟨ab, 0, none⟩) (Kd.R_types ar.out ae.out (by decide)) (fun _ hk => hk.2) (.int .i64 t479)) (fun _ hk => hk.2) (.int .i64 t480)) (fun _ hk => hk.2) (.int .i64 t481)) (fun _ hk => hk.2) (.slice dv t482.length du)) (fun _ hk => hk.2) (.slice dq t485.length dn)) (fun _ hk => hk.2) (.int .i64 t488)) (fun _ hk => hk.2) (.slice dt t489.length dr)) (fun _ h_ => h_.1))) hb); replace aq := Aside0.mk (Kd.R_below (by (with_reducible repeat (first | apply Kd.R_alloc | apply Kd.R_drewN | apply Kd.R_drew)); exact (Kd.R_mono (Kd.R_far (p := ⟨ab, 6, none⟩) (Kd.R_far (p := ⟨ab, 5, none⟩) (Kd.R_far (p := ⟨ab, 4, none⟩) (Kd.R_far (p := ⟨ab, 3, none⟩) (Kd.R_far (p := ⟨ab, 2, none⟩) (Kd.R_far (p := ⟨ab, 1, none⟩) (Kd.R_far (p := ⟨ab, 0, none⟩) (Kd.R_types aq.out ae.out (by decide)) (fun _ hk => hk.2) (.int .i64 t479)) (fun _ hk => hk.2) (.int .i64 t480)) (fun _ hk => hk.2) (.int .i64 t481)) (fun _ hk => hk.2) (.slice dv t482.length du)) (fun _ hk => hk.2) (.slice dq t485.length dn)) (fun _ hk => hk.2) (.int .i64 t488)) (fun _ hk => hk.2) (.slice dt t489.length dr)) (fun _ h_ => h_.1))) hb); replace ac := Aside0.mk (blk_below (g := af) (o := .cells #[.int .i64 ax, .int .i64 ay, .int .i64 az, .slice bb au.length bc, .slice bd av.length be, .int .i64 ba, .slice bf aw.length bg] 30 (0, 0)) (by (with_reducible repeat (first | refine blk_drewN ?_ _ | refine blk_drew ?_ | refine blk_alloc ?_ _)); refine blk_far ?_ aa.out _; (with_reducible repeat (first | refine blk_drewN ?_ _ | refine blk_drew ?_ | refine blk_alloc ?_ _)); refine blk_far ?_ aa.out _; (with_reducible repeat (first | refine blk_drewN ?_ _ | refine blk_drew ?_ | refine blk_alloc ?_ _)); refine blk_far ?_ aa.out _; (with_reducible repeat (first | refine blk_drewN ?_ _ | refine blk_drew ?_ | refine blk_alloc ?_ _)); refine blk_far ?_ aa.out _; (with_reducible repeat (first | refine blk_drewN ?_ _ | refine blk_drew ?_ | refine blk_alloc ?_ _)); refine blk_far ?_ aa.out _; (with_reducible repeat (first | refine blk_drewN ?_ _ | refine blk_drew ?_ | refine blk_alloc ?_ _)); refine blk_far ?_ aa.out _; (with_reducible repeat (first | refine blk_drewN ?_ _ | refine blk_drew ?_ | refine blk_alloc ?_ _)); refine blk_far ?_ aa.out _; (with_reducible repeat (first | refine blk_drewN ?_ _ | refine blk_drew ?_ | refine blk_alloc ?_ _)); exact ac.out) hb); replace ad := Aside0.mk (blk_below (g := aj) (o := .cells #[.int .i64 bk, .int .i64 bl, .int .i64 bm, .slice bu bi.length bv, .slice bw bj.length bx, .bool bn, .slice b4 bh.length bz] 37 (0, 0)) (by (with_reducible repeat (first | refine blk_drewN ?_ _ | refine blk_drew ?_ | refine blk_alloc ?_ _)); refine blk_far ?_ ag.out _; (with_reducible repeat (first | refine blk_drewN ?_ _ | refine blk_drew ?_ | refine blk_alloc ?_ _)); refine blk_far ?_ ag.out _; (with_reducible repeat (first | refine blk_drewN ?_ _ | refine blk_drew ?_ | refine blk_alloc ?_ _)); refine blk_far ?_ ag.out _; (with_reducible repeat (first | refine blk_drewN ?_ _ | refine blk_drew ?_ | refine blk_alloc ?_ _)); refine blk_far ?_ ag.out _; (with_reducible repeat (first | refine blk_drewN ?_ _ | refine blk_drew ?_ | refine blk_alloc ?_ _)); refine blk_far ?_ ag.out _; (with_reducible repeat (first | refine blk_drewN ?_ _ | refine blk_drew ?_ | refine blk_alloc ?_ _)); refine blk_far ?_ ag.out _; (with_reducible repeat (first | refine blk_drewN ?_ _ | refine blk_drew ?_ | refine blk_alloc ?_ _)); refine blk_far ?_ ag.out _; (with_reducible repeat (first | refine blk_drewN ?_ _ | refine blk_drew ?_ | refine blk_alloc ?_ _)); exact ad.out) hb); replace ae := Aside0.mk (blk_below (g := ab) (o := .cells #[.int .i64 t479, .int .i64 t480, .int .i64 t481, .slice dv t482.length du, .slice dq t485.length dn, .int .i64 t488, .slice dt t489.length dr] 30 (0, 0)) (by (with_reducible repeat (first | refine blk_drewN ?_ _ | refine blk_drew ?_ | refine blk_alloc ?_ _)); refine blk_put (cs := #[.int .i64 t479, .int .i64 t480, .int .i64 t481, .slice dv t482.length du, .slice dq t485.length dn, .int .i64 t488, .slice none 0 0]) ?_ 6 _ rfl; (with_reducible repeat (first | refine blk_drewN ?_ _ | refine blk_drew ?_ | refine blk_alloc ?_ _)); refine blk_put (cs := #[.int .i64 t479, .int .i64 t480, .int .i64 t481, .slice dv t482.length du, .slice dq t485.length dn, .int .i64 0, .slice none 0 0]) ?_ 5 _ rfl; (with_reducible repeat (first | refine blk_drewN ?_ _ | refine blk_drew ?_ | refine blk_alloc ?_ _)); refine blk_put (cs := #[.int .i64 t479, .int .i64 t480, .int .i64 t481, .slice dv t482.length du, .slice none 0 0, .int .i64 0, .slice none 0 0]) ?_ 4 _ rfl; (with_reducible repeat (first | refine blk_drewN ?_ _ | refine blk_drew ?_ | refine blk_alloc ?_ _)); refine blk_put (cs := #[.int .i64 t479, .int .i64 t480, .int .i64 t481, .slice none 0 0, .slice none 0 0, .int .i64 0, .slice none 0 0]) ?_ 3 _ rfl; (with_reducible repeat (first | refine blk_drewN ?_ _ | refine blk_drew ?_ | refine blk_alloc ?_ _)); refine blk_put (cs := #[.int .i64 t479, .int .i64 t480, .int .i64 0, .slice none 0 0, .slice none 0 0, .int .i64 0, .slice none 0 0]) ?_ 2 _ rfl; (with_reducible repeat (first | refine blk_drewN ?_ _ | refine blk_drew ?_ | refine blk_alloc ?_ _)); refine blk_put (cs := #[.int .i64 t479, .int .i64 0, .int .i64 0, .slice none 0 0, .slice none 0 0, .int .i64 0, .slice none 0 0]) ?_ 1 _ rfl; (with_reducible repeat (first | refine blk_drewN ?_ _ | refine blk_drew ?_ | refine blk_alloc ?_ _)); refine blk_put (cs := #[.int .i64 0, .int .i64 0, .int .i64 0, .slice none 0 0, .slice none 0 0, .int .i64 0, .slice none 0 0]) ?_ 0 _ rfl; (with_reducible repeat (first | refine blk_drewN ?_ _ | refine blk_drew ?_ | refine blk_alloc ?_ _)); exact ae.out) hb); replace HB := Aside0.mk (below_step (by repeat (first | (with_reducible first | exact HB.out | apply below_alloc | apply pw_below_drewN | apply below_drew1 | refine below_set ?_ ah.out | refine below_set ?_ ai.out | refine below_set ?_ ao.out) | exact HB.out)) hb); (try clear hb); (try clear dw); (try clear hk); (try clear hi)))
     go_ret
     exact ⟨by first | rfl | (simp [errW_none, errW_some] <;> rfl) | (simp [*, errW_none, errW_some] <;> rfl), by repeat (first | (with_reducible first | exact HB.out | apply below_alloc | apply pw_below_drewN | apply below_drew1 | refine below_set ?_ ah.out | refine below_set ?_ ai.out | refine below_set ?_ ao.out) | exact HB.out)⟩

end Go.Proofs.Ytnnlbofmlfafhaa.P

end
section
set_option linter.unusedVariables false
set_option linter.unusedSimpArgs false
namespace Go.Proofs.Ytnnlbofmlfafhaa
open Go.ChangeShapes Go.WideShapes Go.Proofs.YtnnlbofmlfafhaaW.PrintWords Go.Proofs.YtnnlbofmlfafhaaW.PrintLast Go.Proofs.YtnnlbofmlfafhaaW.PrintMore

/-- the ints of a kind -/
def okI (k : IntKind) (n : Int) : Prop := (Lit.int k n).wf = true
def okL {α : Type} (B : Nat) (ok : α → Prop) (l : List α) : Prop := l.length * B ≤ 140737488351232 ∧ ∀ x, x ∈ l → ok x
/-- A reading of a type. -/
structure RV (P : Program) (t : TypeId) (α : Type) (d : Kd α) where
  ok : α → Prop
  sz : P.cellsOf t = d.sz
  opens : ∀ {H : Type} {enc : TypeId × Value → H} {w : World} {base : Nat} {spare : Nat → Bool} {held : Bool} {fuel : Nat} {cs : List Value} {x : DataW H × List MemPlace},
    DataW.trod enc P w base spare held fuel t cs = some x → (x.1.weights P t).all (· ≤ reachBytes) = true → ∃ a, d.K w a cs ∧ ok a
/-- A reading of a stretch of fields. -/
structure RF (P : Program) (fs : List Field) (off : Nat) (α : Type) where
  K : World → α → List Value → Prop
  ok : α → Prop
  opens : ∀ {H : Type} {enc : TypeId × Value → H} {w : World} {base : Nat} {spare : Nat → Bool} {held : Bool} {fuel : Nat} {cs : List Value} {ds : List (DataW H × List MemPlace)}, off ≤ cs.length →
    (∀ f, f ∈ fs → f.offset + P.cellsOf f.type ≤ cs.length) → (∀ (i : Nat) (f : Field), fs[i]? = some f → ∃ y, ds[i]? = some y ∧ DataW.trod enc P w base spare held fuel f.type ((cs.drop f.offset).take (P.cellsOf f.type)) = some y) →
    (DataW.weightsEach P (fs.map (·.type)) (ds.map (·.1))).all (· ≤ reachBytes) = true →
    (fs = [] → cs.length = off) → (∀ f, fs.getLast? = some f → f.offset + P.cellsOf f.type = cs.length) → ∃ a, K w a (cs.drop off) ∧ ok a

section
variable {P : Program} {t e : TypeId} {α β : Type} {d : Kd α}
def rInt (k : IntKind) (ht : P.underlying t = some (.int k)) (hc : P.cellsOf t = 1) : RV P t Int (Kd.int k) where
  ok := okI k
  sz := hc
  opens := fun h _ => by obtain ⟨n, h1, _, h3⟩ := DataW.trod_int ht h; exact ⟨n, h1, h3⟩
def rBool (ht : P.underlying t = some .bool) (hc : P.cellsOf t = 1) : RV P t Bool Kd.bool where
  ok := fun _ => True
  sz := hc
  opens := fun h _ => by obtain ⟨n, h1, _⟩ := DataW.trod_bool ht h; exact ⟨n, h1, trivial⟩
theorem RV.list_of_lt {n : Nat} {p : Nat → α → Prop} (h : ∀ i, i < n → ∃ x, p i x) : ∃ l : List α, l.length = n ∧ ∀ i x, l[i]? = some x → p i x := by
  rcases Nat.eq_zero_or_pos n with rfl | hn
  · exact ⟨[], rfl, fun i x hx => by simp at hx⟩
  · haveI : Inhabited α := ⟨Classical.choose (h 0 hn)⟩
    obtain ⟨f, hf⟩ := Go.Deep.choose_lt h
    refine ⟨(List.range n).map f, by simp, fun i x hx => ?_⟩
    have hi : i < n := by have := (List.getElem?_eq_some_iff.1 hx).1; simpa using this
    have e : ((List.range n).map f)[i]? = some (f i) := by simp [hi]
    rw [e] at hx
    cases hx
    exact hf i hi
theorem add_add_ (a : Addr) (p q : Nat) : (a.add p).add q = a.add (p + q) := by
  unfold Addr.add
  by_cases hp : p = 0
  · subst hp; simp
  · by_cases hq : q = 0
    · subst hq; simp [hp]
    · have : p + q ≠ 0 := by omega
      simp [hp, hq, this, Nat.add_assoc]
theorem weights_elem {H : Type} {P : Program} {e : TypeId} {l : List (DataW H)} {B : Nat} (h : (DataW.weightsAll P e l).all (· ≤ B) = true) {x : DataW H} (hx : x ∈ l) : (x.weights P e).all (· ≤ B) = true := by
  induction l with
  | nil => simp at hx
  | cons y l ih =>
    rw [DataW.weightsAll, List.all_append, Bool.and_eq_true] at h
    rcases List.mem_cons.1 hx with rfl | hx
    · exact h.1
    · exact ih h.2 hx
def rSlice {B : Nat} (ht : P.underlying t = some (.slice e)) (hc : P.cellsOf t = 1) (hB : P.bytesOf e = B) (hp : 0 < d.sz) (hB1 : 1 ≤ B) (V : RV P e α d) : RV P t (List α) (Kd.slice e d) where
  ok := okL B V.ok
  sz := hc
  opens := fun {H enc w base spare held fuel cs x} h hw => by
    rcases Go.Deep.open_slice ht h with ⟨h0, _⟩ | ⟨a, len, cap, m, f, D, Pl, h1, hb, hl, hm, hmm, hx, hcc⟩
    · exact ⟨[], ⟨none, 0, h0, Nat.le_refl _, ⟨rfl, by simp, fun h => absurd h (by simp)⟩⟩, by simp [okL]⟩
    · have hlm : len ≤ m := by rw [hmm]; split <;> omega
      have hw' := hw
      rw [hx] at hw'
      simp only [DataW.weights, ht, List.all_cons, List.length_map, List.length_range, Bool.and_eq_true, List.all_append] at hw'
      obtain ⟨w1, w2, _⟩ := hw'
      have w1' : (len + (m - len)) * B ≤ 140737488351232 := by rw [← hB]; exact of_decide_eq_true w1
      have one : ∀ i, i < len → ∃ x, ∃ cs', cs'.length = d.sz ∧ (∀ j u, cs'[j]? = some u → w.cell? (a.add (i * d.sz + j)) = some u) ∧ d.K w x cs' ∧ V.ok x := by
        intro i hi
        obtain ⟨cs', k1, k2⟩ := hcc i (by omega)
        obtain ⟨_, hlen, hcell⟩ := World.cells?_some k1
        have hwi := weights_elem w2 (List.mem_map.2 ⟨i, List.mem_range.2 hi, rfl⟩)
        obtain ⟨y, hy, hok⟩ := V.opens k2 hwi
        rw [V.sz] at hlen hcell
        refine ⟨y, cs', hlen, fun j u hj => ?_, hy, hok⟩
        have hj' : j < d.sz := by have := (List.getElem?_eq_some_iff.1 hj).1; omega
        have := hcell j hj'
        rw [add_add_, hj] at this
        exact this
      obtain ⟨l, hl', hall⟩ := RV.list_of_lt one
      have hlb : len ≤ 9223372036854775807 := by
        have : len * 1 ≤ (len + (m - len)) * B := Nat.mul_le_mul (by omega) hB1
        omega
      refine ⟨l, ⟨some a, cap, by rw [h1, hl'], by omega, ⟨rfl, by omega, fun _ => ⟨a, rfl, fun j p hj => ?_⟩⟩⟩, ?_, ?_⟩
      · obtain ⟨cs', q1, q2, q3, _⟩ := hall j p hj
        exact ⟨cs', q1, q3, q2⟩
      · rw [hl']
        exact Nat.le_trans (Nat.mul_le_mul_right _ (by omega)) w1'
      · intro x hx
        obtain ⟨i, hi⟩ := List.getElem?_of_mem hx
        obtain ⟨_, _, _, _, q⟩ := hall i x hi
        exact q
def fNil (off : Nat) : RF P [] off Unit where
  K := fun _ _ cs => cs = []
  ok := fun _ => True
  opens := fun _ _ _ _ h0 _ => ⟨(), by have := h0 rfl; simp [← this], trivial⟩
def fCons (f : Field) {fs : List Field} {off n : Nat} (ho : f.offset = off) (hn : P.cellsOf f.type = n) {d : Kd α} (V : RV P f.type α d) (F : RF P fs (off + n) β) : RF P (f :: fs) off (α × β) where
  K := fun w x cs => ∃ c c', cs = c ++ c' ∧ d.K w x.1 c ∧ F.K w x.2 c'
  ok := fun x => V.ok x.1 ∧ F.ok x.2
  opens := fun {H enc w base spare held fuel cs ds} hoff hle hy hw h0 hlast => by
    obtain ⟨y, hy1, hy0⟩ := hy 0 f rfl
    obtain ⟨ds, rfl⟩ : ∃ l, ds = y :: l := by
      cases ds with
      | nil => simp at hy1
      | cons z l => simp at hy1; subst hy1; exact ⟨l, rfl⟩
    rw [List.map_cons, List.map_cons, DataW.weightsEach, List.all_append, Bool.and_eq_true] at hw
    obtain ⟨a, ha, hka⟩ := V.opens hy0 hw.1
    have hl0 := hle f (by simp)
    rw [ho, hn] at hl0
    obtain ⟨b, hb, hkb⟩ := F.opens (cs := cs) (ds := ds) hl0 (fun g hg => hle g (by simp [hg])) (fun i g hg => hy (i + 1) g hg) hw.2 (fun h => by subst h; have := hlast f (by simp); rw [ho, hn] at this; exact this.symm)
      (fun g hg => hlast g (by cases fs with | nil => simp at hg | cons z zs => rw [List.getLast?_cons_cons]; exact hg))
    refine ⟨(a, b), ⟨(cs.drop off).take n, cs.drop (off + n), ?_, ?_, hb⟩, hka, hkb⟩
    · rw [← List.drop_drop, List.take_append_drop]
    · rw [ho, hn] at ha; exact ha
/-- the struct's cells end with its last field's -/
def fitsB (P : Program) (t : TypeId) (fs : List Field) : Bool := fs.all (fun f => decide (f.offset + P.cellsOf f.type ≤ P.cellsOf t)) && (match fs.getLast? with | some f => f.offset + P.cellsOf f.type == P.cellsOf t | none => P.cellsOf t == 0)
def rStruct {fs : Array Field} (ht : P.underlying t = some (.struct fs)) (hf : fitsB P t fs.toList = true) {d : Kd β} (hc : P.cellsOf t = d.sz) (F : RF P fs.toList 0 α) (f : α → β) (hK : ∀ w x cs, F.K w x cs → d.K w (f x) cs) (ok : β → Prop) (hok : ∀ x, F.ok x → ok (f x)) : RV P t β d where
  ok := ok
  sz := hc
  opens := fun {H enc w base spare held fuel cs x} h hw => by
    obtain ⟨xs, n, _, rfl, hl, hxl, hx⟩ := DataW.trod_struct ht h
    unfold fitsB at hf
    rw [Bool.and_eq_true] at hf
    obtain ⟨f1, f2⟩ := hf
    simp only [DataW.weights, ht] at hw
    obtain ⟨a, ha, hka⟩ := F.opens (enc := enc) (w := w) (base := base) (spare := spare) (held := held) (fuel := n) (cs := cs) (ds := xs) (Nat.zero_le _)
      (fun f hf => by rw [hl]; exact of_decide_eq_true (List.all_eq_true.1 f1 f hf))
      (fun i f hi => by
        have hi' : fs[i]? = some f := by rw [← Array.getElem?_toList]; exact hi
        have hlt : i < fs.size := by
          have := (List.getElem?_eq_some_iff.1 hi).1
          simpa using this
        have z := hx i f hi'
        rw [z]
        exact ⟨_, List.getElem?_eq_getElem (by omega), List.getElem?_eq_getElem (by omega)⟩)
      hw
      (fun h0 => by rw [h0] at f2; simp at f2; rw [hl]; exact f2)
      (fun f hf => by rw [hf] at f2; simp at f2; rw [hl]; exact f2)
    exact ⟨f a, hK _ _ _ (by simpa using ha), hok a hka⟩
end
end Go.Proofs.Ytnnlbofmlfafhaa

end
section
namespace Go.Proofs.Ytnnlbofmlfafhaa.P
open Go.Proofs.YtnnlbofmlfafhaaW.PrintWords Go.Proofs.YtnnlbofmlfafhaaW.PrintLast Go.Proofs.YtnnlbofmlfafhaaW.PrintMore
set_option linter.unusedVariables false
def r3 : RV Try.prog 3 Int (Kd.int .i64) := rInt .i64 Try.underlying3 (by kernel_rfl)
def r27 : RV Try.prog 27 (List (Int)) (Kd.slice 3 (Kd.int .i64)) := rSlice (B := 8) Try.underlying27 (by kernel_rfl) (by kernel_rfl) (by decide) (by decide) r3
def ok63 (x : S63) : Prop := (okI .i64) x.f0 ∧ (okI .i64) x.f1
def r63 : RV Try.prog 63 S63 k63 := rStruct Try.underlying63 (by kernel_rfl) (by kernel_rfl) (fCons (n := 1) _ rfl (by kernel_rfl) r3 (fCons (n := 1) _ rfl (by kernel_rfl) r3 (fNil _))) (fun x => ⟨x.1, x.2.1⟩) (by rintro w x cs ⟨c0, _, rfl, h0, c1, _, rfl, h1, rfl⟩; exact ⟨c0, _, rfl, h0, (by rw [List.append_nil]; exact h1)⟩) ok63 (fun x h => ⟨h.1, h.2.1⟩)
def r28 : RV Try.prog 28 (List (S63)) (Kd.slice 63 k63) := rSlice (B := 16) Try.underlying28 (by kernel_rfl) (by kernel_rfl) (by decide) (by decide) r63
def ok30 (x : S30) : Prop := (okI .i64) x.f0 ∧ (okI .i64) x.f1 ∧ (okI .i64) x.f2 ∧ (okL 8 (okI .i64)) x.f3 ∧ (okL 16 (ok63)) x.f4 ∧ (okI .i64) x.f5 ∧ (okL 8 (okI .i64)) x.f6
def r30 : RV Try.prog 30 S30 k30 := rStruct Try.underlying30 (by kernel_rfl) (by kernel_rfl) (fCons (n := 1) _ rfl (by kernel_rfl) r3 (fCons (n := 1) _ rfl (by kernel_rfl) r3 (fCons (n := 1) _ rfl (by kernel_rfl) r3 (fCons (n := 1) _ rfl (by kernel_rfl) r27 (fCons (n := 1) _ rfl (by kernel_rfl) r28 (fCons (n := 1) _ rfl (by kernel_rfl) r3 (fCons (n := 1) _ rfl (by kernel_rfl) r27 (fNil _)))))))) (fun x => ⟨x.1, x.2.1, x.2.2.1, x.2.2.2.1, x.2.2.2.2.1, x.2.2.2.2.2.1, x.2.2.2.2.2.2.1⟩) (by rintro w x cs ⟨c0, _, rfl, h0, c1, _, rfl, h1, c2, _, rfl, h2, c3, _, rfl, h3, c4, _, rfl, h4, c5, _, rfl, h5, c6, _, rfl, h6, rfl⟩; exact ⟨c0, _, rfl, h0, ⟨c1, _, rfl, h1, ⟨c2, _, rfl, h2, ⟨c3, _, rfl, h3, ⟨c4, _, rfl, h4, ⟨c5, _, rfl, h5, (by rw [List.append_nil]; exact h6)⟩⟩⟩⟩⟩⟩) ok30 (fun x h => ⟨h.1, h.2.1, h.2.2.1, h.2.2.2.1, h.2.2.2.2.1, h.2.2.2.2.2.1, h.2.2.2.2.2.2.1⟩)
def r4 : RV Try.prog 4 Bool Kd.bool := rBool Try.underlying4 (by kernel_rfl)
def ok37 (x : S37) : Prop := (okI .i64) x.f0 ∧ (okI .i64) x.f1 ∧ (okI .i64) x.f2 ∧ (okL 16 (ok63)) x.f3 ∧ (okL 16 (ok63)) x.f4 ∧ ((fun _ : Bool => True)) x.f5 ∧ (okL 8 (okI .i64)) x.f6
def r37 : RV Try.prog 37 S37 k37 := rStruct Try.underlying37 (by kernel_rfl) (by kernel_rfl) (fCons (n := 1) _ rfl (by kernel_rfl) r3 (fCons (n := 1) _ rfl (by kernel_rfl) r3 (fCons (n := 1) _ rfl (by kernel_rfl) r3 (fCons (n := 1) _ rfl (by kernel_rfl) r28 (fCons (n := 1) _ rfl (by kernel_rfl) r28 (fCons (n := 1) _ rfl (by kernel_rfl) r4 (fCons (n := 1) _ rfl (by kernel_rfl) r27 (fNil _)))))))) (fun x => ⟨x.1, x.2.1, x.2.2.1, x.2.2.2.1, x.2.2.2.2.1, x.2.2.2.2.2.1, x.2.2.2.2.2.2.1⟩) (by rintro w x cs ⟨c0, _, rfl, h0, c1, _, rfl, h1, c2, _, rfl, h2, c3, _, rfl, h3, c4, _, rfl, h4, c5, _, rfl, h5, c6, _, rfl, h6, rfl⟩; exact ⟨c0, _, rfl, h0, ⟨c1, _, rfl, h1, ⟨c2, _, rfl, h2, ⟨c3, _, rfl, h3, ⟨c4, _, rfl, h4, ⟨c5, _, rfl, h5, (by rw [List.append_nil]; exact h6)⟩⟩⟩⟩⟩⟩) ok37 (fun x h => ⟨h.1, h.2.1, h.2.2.1, h.2.2.2.1, h.2.2.2.2.1, h.2.2.2.2.2.1, h.2.2.2.2.2.2.1⟩)
end Go.Proofs.Ytnnlbofmlfafhaa.P

end

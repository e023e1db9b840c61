/- Part of the proof of RowAttrOwn: what it asks of functions, words and plain facts (put together by this session's own program, wip/tools/shake.py). -/
import Derived.Test.YtnnlbofmlfafhaaZAttrOwn0
import Derived.Test.YtnnlbofmlfafhaaZAttrOwn1
import Derived.Test.YtnnlbofmlfafhaaZAttrOwn2
import Derived.Test.YtnnlbofmlfafhaaZAttrOwn3
section
namespace Go.Proofs.Ytnnlbofmlfafhaa.P
open Go.RowKit Go.Proofs.YtnnlbofmlfafhaaW.PrintWords Go.Proofs.YtnnlbofmlfafhaaW.PrintLast Go.Proofs.YtnnlbofmlfafhaaW.PrintMore
attribute [local go_sem] max2_int min2_int max_two min_two max_three min_three max_four min_four   -- for this text's walks alone
set_option linter.unusedVariables false
set_option linter.unusedSimpArgs false

mutual
def attr_Do.j0 : Nat → Bool → Int → Int → Int → List Int → List (S63) → Int → List Int → Int → Int → Int → List (S63) → List (S63) → Bool → List Int → Option (Int × Int × Int × List Int × (List (S63)) × Int × List Int × Int)
  | 0, _, _, _, _, _, _, _, _, _, _, _, _, _, _, _ => none
  | k + 1, x18, x353000, x353001, x353002, x353003, x353004, x353005, x353006, x354000, x354001, x354002, x354003, x354004, x354005, x354006 => if x18 = true then (some (0, 0, 0, ([] : List Int), ([] : List (S63)), 0, ([] : List Int), 1)) else (if (x354006.length : Int) > (wrap64 (16 - (x353003.length : Int))) then (some (0, 0, 0, ([] : List Int), ([] : List (S63)), 0, ([] : List Int), 2)) else ((attr_Copy.f x353000 x353001 x353002 x353003 x353004 x353005 x353006).bind fun bt357 => (if x354000 ≥ 0 then (attr_Do.j1 k x354000 x354001 x354002 x354003 x354004 x354005 x354006 x354000 bt357.2.1 bt357.2.2.1 bt357.2.2.2.1 bt357.2.2.2.2.1 bt357.2.2.2.2.2.1 bt357.2.2.2.2.2.2) else (attr_Do.j1 k x354000 x354001 x354002 x354003 x354004 x354005 x354006 bt357.1 bt357.2.1 bt357.2.2.1 bt357.2.2.2.1 bt357.2.2.2.2.1 bt357.2.2.2.2.2.1 bt357.2.2.2.2.2.2))))
def attr_Do.j1 : Nat → Int → Int → Int → List (S63) → List (S63) → Bool → List Int → Int → Int → Int → List Int → List (S63) → Int → List Int → Option (Int × Int × Int × List Int × (List (S63)) × Int × List Int × Int)
  | 0, _, _, _, _, _, _, _, _, _, _, _, _, _, _ => none
  | k + 1, x354000, x354001, x354002, x354003, x354004, x354005, x354006, x371000, x371001, x371002, x371003, x371004, x371005, x371006 => if x354001 ≥ 0 then (attr_Do.j2 k x354000 x354001 x354002 x354003 x354004 x354005 x354006 x371000 x354001 x371002 x371003 x371004 x371005 x371006) else (attr_Do.j2 k x354000 x354001 x354002 x354003 x354004 x354005 x354006 x371000 x371001 x371002 x371003 x371004 x371005 x371006)
def attr_Do.j2 : Nat → Int → Int → Int → List (S63) → List (S63) → Bool → List Int → Int → Int → Int → List Int → List (S63) → Int → List Int → Option (Int × Int × Int × List Int × (List (S63)) × Int × List Int × Int)
  | 0, _, _, _, _, _, _, _, _, _, _, _, _, _, _ => none
  | k + 1, x354000, x354001, x354002, x354003, x354004, x354005, x354006, x371000, x371001, x371002, x371003, x371004, x371005, x371006 => if x354002 ≥ 0 then (attr_Do.j3 k x354000 x354001 x354002 x354003 x354004 x354005 x354006 x371000 x371001 x354002 x371003 x371004 x371005 x371006) else (attr_Do.j3 k x354000 x354001 x354002 x354003 x354004 x354005 x354006 x371000 x371001 x371002 x371003 x371004 x371005 x371006)
def attr_Do.j3 : Nat → Int → Int → Int → List (S63) → List (S63) → Bool → List Int → Int → Int → Int → List Int → List (S63) → Int → List Int → Option (Int × Int × Int × List Int × (List (S63)) × Int × List Int × Int)
  | 0, _, _, _, _, _, _, _, _, _, _, _, _, _, _ => none
  | k + 1, x354000, x354001, x354002, x354003, x354004, x354005, x354006, x371000, x371001, x371002, x371003, x371004, x371005, x371006 => if x354005 = true then (attr_Do.j4 k x354000 x354001 x354002 x354003 x354004 x354005 x354006 x371000 x371001 x371002 x371003 ([] : List (S63)) x371005 x371006) else (attr_Do.j4 k x354000 x354001 x354002 x354003 x354004 x354005 x354006 x371000 x371001 x371002 x371003 x371004 x371005 x371006)
def attr_Do.j4 : Nat → Int → Int → Int → List (S63) → List (S63) → Bool → List Int → Int → Int → Int → List Int → List (S63) → Int → List Int → Option (Int × Int × Int × List Int × (List (S63)) × Int × List Int × Int)
  | 0, _, _, _, _, _, _, _, _, _, _, _, _, _, _ => none
  | k + 1, x354000, x354001, x354002, x354003, x354004, x354005, x354006, x371000, x371001, x371002, x371003, x371004, x371005, x371006 => (comm_Del.f k x371004 x354004).bind fun bt371 => ((comm_Add.f k bt371.1 x354003).bind fun bt375 => (if bt375.2 = 0 then ((attr_cloned_int.f x354006).bind fun t379 => (if t379.length + x371003.length < 17592186044416 then (some (x371000, x371001, x371002, (t379 ++ x371003), bt375.1, x371005, x371006, 0)) else (none))) else (some (0, 0, 0, ([] : List Int), ([] : List (S63)), 0, ([] : List Int), bt375.2))))
end
def attr_Do.f (k : Nat) (a0_0 : Int) (a0_1 : Int) (a0_2 : Int) (l0_3 : List Int) (l0_4 : List (S63)) (a0_5 : Int) (l0_6 : List Int) (a1_0 : Int) (a1_1 : Int) (a1_2 : Int) (l1_3 : List (S63)) (l1_4 : List (S63)) (a1_5 : Bool) (l1_6 : List Int) : Option (Int × Int × Int × List Int × (List (S63)) × Int × List Int × Int) := (attr_May.f k a0_0 a0_1 a0_2 l0_3 l0_4 a0_5 l0_6).bind fun t355 => (if t355 = true then ((attr_Change.f a1_0 a1_1 a1_2 l1_3 l1_4 a1_5 l1_6).bind fun t356 => (attr_Do.j0 k (!t356) a0_0 a0_1 a0_2 l0_3 l0_4 a0_5 l0_6 a1_0 a1_1 a1_2 l1_3 l1_4 a1_5 l1_6)) else (attr_Do.j0 k true a0_0 a0_1 a0_2 l0_3 l0_4 a0_5 l0_6 a1_0 a1_1 a1_2 l1_3 l1_4 a1_5 l1_6))
def attr_Do.T19 : Bool × List (List Nat × List Nat) := (true, [([], []), ([0], [0]), ([1], [1]), ([], []), ([3], [3]), ([2, 4, 2], [2, 4]), ([0, 1, 2, 3, 4, 5], []), ([6, 5, 5, 0, 1, 2, 3, 4, 5], [5, 6])])
def attr_Do.B19 : List Nat := [0, 1, 3, 0, 8, 31, 63, 127]
theorem attr_Do.tab19 : rtab .any (opsOf Try.f21 19) = attr_Do.T19 := by kernel_rfl
theorem attr_Do.bits19 : waitsOk attr_Do.T19.2 attr_Do.B19 = true := by kernel_rfl
theorem kd143.b7 {W : World} {g : Nat} {v0 v1 v2 v3 v4 v5 v6 : Value} {t : TypeId} (h : W.heap[g]? = some (.cells #[v0, v1, v2, v3, v4, v5, v6] t (0, 0))) {R : Prop} (r : R) : W.cell? ⟨g, 0, none⟩ = some v0 ∧ W.cell? ⟨g, 1, none⟩ = some v1 ∧ W.cell? ⟨g, 2, none⟩ = some v2 ∧ W.cell? ⟨g, 3, none⟩ = some v3 ∧ W.cell? ⟨g, 4, none⟩ = some v4 ∧ W.cell? ⟨g, 5, none⟩ = some v5 ∧ W.cell? ⟨g, 6, none⟩ = some v6 ∧ R :=
  ⟨(blk_cell h 0).trans rfl, (blk_cell h 1).trans rfl, (blk_cell h 2).trans rfl, (blk_cell h 3).trans rfl, (blk_cell h 4).trans rfl, (blk_cell h 5).trans rfl, (blk_cell h 6).trans rfl, r⟩
theorem kd143.b7e {W : World} {g : Nat} {v0 v1 v2 v3 v4 v5 v6 : Value} {t : TypeId} (h : W.heap[g]? = some (.cells #[v0, v1, v2, v3, v4, v5, v6] t (0, 0))) : W.cell? ⟨g, 0, none⟩ = some v0 ∧ W.cell? ⟨g, 1, none⟩ = some v1 ∧ W.cell? ⟨g, 2, none⟩ = some v2 ∧ W.cell? ⟨g, 3, none⟩ = some v3 ∧ W.cell? ⟨g, 4, none⟩ = some v4 ∧ W.cell? ⟨g, 5, none⟩ = some v5 ∧ W.cell? ⟨g, 6, none⟩ = some v6 :=
  ⟨(blk_cell h 0).trans rfl, (blk_cell h 1).trans rfl, (blk_cell h 2).trans rfl, (blk_cell h 3).trans rfl, (blk_cell h 4).trans rfl, (blk_cell h 5).trans rfl, (blk_cell h 6).trans rfl⟩
@[reducible] def kd143.S0 (g0 g1 : Nat) (v0 v1 v2 v3 v4 v5 v6 v7 v8 v9 v10 v11 v12 v13 : Value) (w' : World) : Prop := w'.cell? ⟨g0, 0, none⟩ = some v0 ∧ w'.cell? ⟨g0, 1, none⟩ = some v1 ∧ w'.cell? ⟨g0, 2, none⟩ = some v2 ∧ w'.cell? ⟨g0, 3, none⟩ = some v3 ∧ w'.cell? ⟨g0, 4, none⟩ = some v4 ∧ w'.cell? ⟨g0, 5, none⟩ = some v5 ∧ w'.cell? ⟨g0, 6, none⟩ = some v6 ∧ w'.cell? ⟨g1, 0, none⟩ = some v7 ∧ w'.cell? ⟨g1, 1, none⟩ = some v8 ∧ w'.cell? ⟨g1, 2, none⟩ = some v9 ∧ w'.cell? ⟨g1, 3, none⟩ = some v10 ∧ w'.cell? ⟨g1, 4, none⟩ = some v11 ∧ w'.cell? ⟨g1, 5, none⟩ = some v12 ∧ w'.cell? ⟨g1, 6, none⟩ = some v13
set_option maxHeartbeats 8000000 in
set_option maxRecDepth 100000 in
theorem attr_Do.calls (k : Nat) (bv : Int) (bw : Int) (bx : Int) (b2 : Option Addr) (b3 : Nat) (bk : List Int) (b4 : Option Addr) (b5 : Nat) (bl : List (S63)) (bz : Int) (b6 : Option Addr) (b8 : Nat) (bm : List Int) (ap : Int) (aq : Int) (ar : Int) (bn : Option Addr) (bo : Nat) (au : List (S63)) (bp : Option Addr) (bq : Nat) (av : List (S63)) (bi : Bool) (bt : Option Addr) (bu : Nat) (ao : List Int) (r1 : Int) (r2 : Int) (r3 : Int) (r4 : List Int) (r5 : List (S63)) (r6 : Int) (r7 : List Int) (r8 : Int) (w : World) (hr0_3 : Kd.C (Kd.int .i64) w b2 bk.length bk) (hc0_3 : bk.length ≤ b3) (hr0_4 : Kd.C k63 w b4 bl.length bl) (hc0_4 : bl.length ≤ b5) (hr0_6 : Kd.C (Kd.int .i64) w b6 bm.length bm) (hc0_6 : bm.length ≤ b8) (hr1_3 : Kd.C k63 w bn au.length au) (hc1_3 : au.length ≤ bo) (hr1_4 : Kd.C k63 w bp av.length av) (hc1_4 : av.length ≤ bq) (hr1_6 : Kd.C (Kd.int .i64) w bt ao.length ao) (hc1_6 : ao.length ≤ bu) (h : attr_Do.f k bv bw bx bk bl bz bm ap aq ar au av bi ao = some (r1, r2, r3, r4, r5, r6, r7, r8)) :
  Calls Try.prog 21 #[.agg #[.int .i64 bv, .int .i64 bw, .int .i64 bx, .slice b2 bk.length b3, .slice b4 bl.length b5, .int .i64 bz, .slice b6 bm.length b8], .agg #[.int .i64 ap, .int .i64 aq, .int .i64 ar, .slice bn au.length bo, .slice bp av.length bq, .bool bi, .slice bt ao.length bu]] w fun e w' => ∃ v3_ v4_ v6_ : Value, e = .returned (.tuple #[.agg #[.int .i64 r1, .int .i64 r2, .int .i64 r3, v3_, v4_, .int .i64 r6, v6_], .int .i64 r8]) ∧ Kd.R (Kd.int .i64) 3 w' w.heap.size (fun k_ => some k_ ≠ (v6_ : Value).ownBlock) v3_ r4 ∧ Kd.R k63 63 w' w.heap.size (fun _ => True) v4_ r5 ∧ Kd.R (Kd.int .i64) 3 w' w.heap.size (fun k_ => some k_ ≠ (v3_ : Value).ownBlock) v6_ r7 ∧ Below w.heap.size w w' := by
 have hu30 := Try.underlying30
 have hu37 := Try.underlying37
 have HR0_3 := Aside0.mk hr0_3
 have HC0_3 := Aside0.mk hc0_3
 clear hr0_3 hc0_3
 have HR0_4 := Aside0.mk hr0_4
 have HC0_4 := Aside0.mk hc0_4
 clear hr0_4 hc0_4
 have HR0_6 := Aside0.mk hr0_6
 have HC0_6 := Aside0.mk hc0_6
 clear hr0_6 hc0_6
 have HR1_3 := Aside0.mk hr1_3
 have HC1_3 := Aside0.mk hc1_3
 clear hr1_3 hc1_3
 have HR1_4 := Aside0.mk hr1_4
 have HC1_4 := Aside0.mk hc1_4
 clear hr1_4 hc1_4
 have HR1_6 := Aside0.mk hr1_6
 have HC1_6 := Aside0.mk hc1_6
 clear hr1_6 hc1_6
 have HB := Aside0.mk (Below.refl w.heap.size w)
 have H := h
 unfold attr_Do.f at H
 clear h
 have HC3 := Aside0.mk H
 clear H
 go_enter Try.func21, Try.ntmps21
 go_upto_region 1 with (first | ((with_reducible refine gate_dst (N := 2) rfl ?_); refine box_event ?hg (N := 2) ?hd (cs := #[.int .i64 bv, .int .i64 bw, .int .i64 bx, .slice b2 bk.length b3, .slice b4 bl.length b5, .int .i64 bz, .slice b6 bm.length b8]) (t := 30) ?hr ?_; (case hd => rfl); (case hg => rfl); (case hr => first | (go_simp; done) | (go_simp; rfl)); intro ak hg w4 hbox hb; have n0_ := Aside0.mk (below_step (by repeat (first | (with_reducible first | exact HB.out | apply below_alloc | apply pw_below_drewN | apply below_drew1) | exact HB.out)) hb); have n1_ := Aside0.mk (hbox); have n2_ := Aside0.mk ((by rw [hg]; exact (below_size (by repeat (first | (with_reducible first | exact HB.out | apply below_alloc | apply pw_below_drewN | apply below_drew1) | exact HB.out))) : w.heap.size ≤ ak)); have n3_ := Aside0.mk ((by rw [hg]; exact (below_size (by repeat (first | (with_reducible first | exact HB.out | apply below_alloc | apply pw_below_drewN | apply below_drew1) | exact HB.out))) : w.heap.size ≤ ak)); clear HB; have HB := n0_; have ae := n1_; have GW352 := n2_; have al := n3_; clear n0_ n1_ n2_ n3_; clear hb hbox hg) | ((with_reducible refine gate_dst (N := 3) rfl ?_); refine box_event ?hg (N := 3) ?hd (cs := #[.int .i64 ap, .int .i64 aq, .int .i64 ar, .slice bn au.length bo, .slice bp av.length bq, .bool bi, .slice bt ao.length bu]) (t := 37) ?hr ?_; (case hd => rfl); (case hg => rfl); (case hr => first | (go_simp; done) | (go_simp; rfl)); intro ad hg w5 hbox hb; have n0_ := Aside0.mk (blk_below (g := ak) (by (with_reducible repeat (first | refine blk_drewN ?_ _ | refine blk_drew ?_ | refine blk_alloc ?_ _)); exact ae.out) hb); have n1_ := Aside0.mk (below_step (by repeat (first | (with_reducible first | exact HB.out | apply below_alloc | apply pw_below_drewN | apply below_drew1 | refine below_set ?_ al.out) | exact HB.out)) hb); have n2_ := Aside0.mk (hbox); have n3_ := Aside0.mk ((by rw [hg]; exact (below_size (by repeat (first | (with_reducible first | exact HB.out | apply below_alloc | apply pw_below_drewN | apply below_drew1 | refine below_set ?_ al.out) | exact HB.out))) : w.heap.size ≤ ad)); have n4_ := Aside0.mk ((by rw [hg]; exact (below_size (by repeat (first | (with_reducible first | exact HB.out | apply below_alloc | apply pw_below_drewN | apply below_drew1 | refine below_set ?_ al.out) | exact HB.out))) : w.heap.size ≤ ad)); have n5_ := Aside0.mk ((by rw [hg]; exact Nat.ne_of_lt (blk_lt (g := ak) (o := .cells #[.int .i64 bv, .int .i64 bw, .int .i64 bx, .slice b2 bk.length b3, .slice b4 bl.length b5, .int .i64 bz, .slice b6 bm.length b8] 30 (0, 0)) (by (with_reducible repeat (first | refine blk_drewN ?_ _ | refine blk_drew ?_ | refine blk_alloc ?_ _)); exact ae.out)) : ak ≠ ad)); have n6_ := Aside0.mk ((by rw [hg]; exact Nat.ne_of_gt (blk_lt (g := ak) (o := .cells #[.int .i64 bv, .int .i64 bw, .int .i64 bx, .slice b2 bk.length b3, .slice b4 bl.length b5, .int .i64 bz, .slice b6 bm.length b8] 30 (0, 0)) (by (with_reducible repeat (first | refine blk_drewN ?_ _ | refine blk_drew ?_ | refine blk_alloc ?_ _)); exact ae.out)) : ad ≠ ak)); clear ae; clear HB; have ae := n0_; have HB := n1_; have aa := n2_; have GW353 := n3_; have am := n4_; have aw := n5_; have ax := n6_; clear n0_ n1_ n2_ n3_ n4_ n5_ n6_; clear hb hbox hg) | ((with_reducible refine gate_dst (N := 4) rfl ?_); refine box_event ?hg (N := 4) ?hd (cs := #[.int .i64 0, .int .i64 0, .int .i64 0, .slice none 0 0, .slice none 0 0, .int .i64 0, .slice none 0 0]) (t := 30) ?hr ?_; (case hd => rfl); (case hg => rfl); (case hr => first | (go_simp; done) | (go_simp; rfl)); intro ag hg w6 hbox hb; have n0_ := Aside0.mk (blk_below (g := ak) (by (with_reducible repeat (first | refine blk_drewN ?_ _ | refine blk_drew ?_ | refine blk_alloc ?_ _)); exact ae.out) hb); have n1_ := Aside0.mk (blk_below (g := ad) (by (with_reducible repeat (first | refine blk_drewN ?_ _ | refine blk_drew ?_ | refine blk_alloc ?_ _)); exact aa.out) hb); have n2_ := Aside0.mk (below_step (by repeat (first | (with_reducible first | exact HB.out | apply below_alloc | apply pw_below_drewN | apply below_drew1 | refine below_set ?_ al.out | refine below_set ?_ am.out) | exact HB.out)) hb); have n3_ := Aside0.mk (hbox); have n4_ := Aside0.mk ((by rw [hg]; exact (below_size (by repeat (first | (with_reducible first | exact HB.out | apply below_alloc | apply pw_below_drewN | apply below_drew1 | refine below_set ?_ al.out | refine below_set ?_ am.out) | exact HB.out))) : w.heap.size ≤ ag)); have n5_ := Aside0.mk ((by rw [hg]; exact (below_size (by repeat (first | (with_reducible first | exact HB.out | apply below_alloc | apply pw_below_drewN | apply below_drew1 | refine below_set ?_ al.out | refine below_set ?_ am.out) | exact HB.out))) : w.heap.size ≤ ag)); have n6_ := Aside0.mk ((by rw [hg]; exact Nat.ne_of_lt (blk_lt (g := ak) (o := .cells #[.int .i64 bv, .int .i64 bw, .int .i64 bx, .slice b2 bk.length b3, .slice b4 bl.length b5, .int .i64 bz, .slice b6 bm.length b8] 30 (0, 0)) (by (with_reducible repeat (first | refine blk_drewN ?_ _ | refine blk_drew ?_ | refine blk_alloc ?_ _)); exact ae.out)) : ak ≠ ag)); have n7_ := Aside0.mk ((by rw [hg]; exact Nat.ne_of_gt (blk_lt (g := ak) (o := .cells #[.int .i64 bv, .int .i64 bw, .int .i64 bx, .slice b2 bk.length b3, .slice b4 bl.length b5, .int .i64 bz, .slice b6 bm.length b8] 30 (0, 0)) (by (with_reducible repeat (first | refine blk_drewN ?_ _ | refine blk_drew ?_ | refine blk_alloc ?_ _)); exact ae.out)) : ag ≠ ak)); have n8_ := Aside0.mk ((by rw [hg]; exact Nat.ne_of_lt (blk_lt (g := ad) (o := .cells #[.int .i64 ap, .int .i64 aq, .int .i64 ar, .slice bn au.length bo, .slice bp av.length bq, .bool bi, .slice bt ao.length bu] 37 (0, 0)) (by (with_reducible repeat (first | refine blk_drewN ?_ _ | refine blk_drew ?_ | refine blk_alloc ?_ _)); exact aa.out)) : ad ≠ ag)); have n9_ := Aside0.mk ((by rw [hg]; exact Nat.ne_of_gt (blk_lt (g := ad) (o := .cells #[.int .i64 ap, .int .i64 aq, .int .i64 ar, .slice bn au.length bo, .slice bp av.length bq, .bool bi, .slice bt ao.length bu] 37 (0, 0)) (by (with_reducible repeat (first | refine blk_drewN ?_ _ | refine blk_drew ?_ | refine blk_alloc ?_ _)); exact aa.out)) : ag ≠ ad)); clear ae; clear aa; clear HB; have ae := n0_; have aa := n1_; have HB := n2_; have af := n3_; have GW354 := n4_; have an := n5_; have NB352_354 := n6_; have NB354_352 := n7_; have ay := n8_; have az := n9_; clear n0_ n1_ n2_ n3_ n4_ n5_ n6_ n7_ n8_ n9_; clear hb hbox hg))
 (try simp only [Act.put, List.setIfInBounds_toArray, List.set_cons_zero, List.set_cons_succ])
 go_cut [18] (fun v18 wc => ∃ (kq : Nat) (x18_2 : Bool), v18 = .bool x18_2 ∧ Aside0 (attr_Do.j0 kq x18_2 bv bw bx bk bl bz bm ap aq ar au av bi ao = some (r1, r2, r3, r4, r5, r6, r7, r8)) ∧ Aside0 (kq ≤ k) ∧ Aside0 (wc.heap[ak]? = some (.cells #[.int .i64 bv, .int .i64 bw, .int .i64 bx, (.slice b2 bk.length b3), (.slice b4 bl.length b5), .int .i64 bz, (.slice b6 bm.length b8)] 30 (0, 0))) ∧ Aside0 (wc.heap[ad]? = some (.cells #[.int .i64 ap, .int .i64 aq, .int .i64 ar, (.slice bn au.length bo), (.slice bp av.length bq), .bool bi, (.slice bt ao.length bu)] 37 (0, 0))) ∧ Aside0 (wc.heap[ag]? = some (.cells #[.int .i64 0, .int .i64 0, .int .i64 0, (.slice none 0 0), (.slice none 0 0), .int .i64 0, (.slice none 0 0)] 30 (0, 0))) ∧ Aside0 (Below w.heap.size w wc))
 case first =>
  have H := HC3.out
  clear HC3
  replace H := Option.bind_eq_some_iff.mp H
  obtain ⟨t355, A70, H⟩ := H
  (try dsimp only at H)
  have A7 := Aside0.mk A70
  clear A70
  by_cases c8 : t355 = true
  ·subst c8
   have H1 := H
   rw [if_pos rfl] at H1
   clear H
   have H := H1
   clear H1
   replace H := Option.bind_eq_some_iff.mp H
   obtain ⟨t356, A90, H⟩ := H
   (try dsimp only at H)
   have A9 := Aside0.mk A90
   clear A90
   have H' := Aside0.mk H
   clear H
   have hnb10 := aw.out
   have hnc10 := ax.out
   have hnb11 := NB352_354.out
   have hnc11 := NB354_352.out
   have hcz12_0 : w6.cell? ⟨ak, 0, none⟩ = some (.int .i64 bv) := (blk_cell ae.out 0).trans rfl
   have hcz12_1 : w6.cell? ⟨ak, 1, none⟩ = some (.int .i64 bw) := (blk_cell ae.out 1).trans rfl
   have hcz12_2 : w6.cell? ⟨ak, 2, none⟩ = some (.int .i64 bx) := (blk_cell ae.out 2).trans rfl
   have hcz12_3 : w6.cell? ⟨ak, 3, none⟩ = some (.slice b2 bk.length b3) := (blk_cell ae.out 3).trans rfl
   have hcz12_4 : w6.cell? ⟨ak, 4, none⟩ = some (.slice b4 bl.length b5) := (blk_cell ae.out 4).trans rfl
   have hcz12_5 : w6.cell? ⟨ak, 5, none⟩ = some (.int .i64 bz) := (blk_cell ae.out 5).trans rfl
   have hcz12_6 : w6.cell? ⟨ak, 6, none⟩ = some (.slice b6 bm.length b8) := (blk_cell ae.out 6).trans rfl
   have hfz12_0 := blk_frozen ae.out 0
   have hfz12_1 := blk_frozen ae.out 1
   have hfz12_2 := blk_frozen ae.out 2
   have hfz12_3 := blk_frozen ae.out 3
   have hfz12_4 := blk_frozen ae.out 4
   have hfz12_5 := blk_frozen ae.out 5
   have hfz12_6 := blk_frozen ae.out 6
   go_wp2_with (first | ((with_reducible refine gate_callee (f := 15) rfl ?_); refine goesL_ (some 12) rfl rfl Try.func15 (by kernel_rfl) rfl #[.agg #[.int .i64 bv, .int .i64 bw, .int .i64 bx, .slice b2 bk.length b3, .slice b4 bl.length b5, .int .i64 bz, .slice b6 bm.length b8]] rfl (by (try simp only [List.map_toArray, List.map_cons, List.map_nil]); first | done | rfl) ?_; (with_reducible refine (attr_May.calls k bv bw bx _ _ bk _ _ bl bz _ _ bm true _ ?side1 ?side2 ?side3 ?side4 ?side5 ?side6 A7.out).mono ?_); (case side1 | side3 | side5 => repeat (first | exact (Kd.C_below HR0_3.out HB.out) | exact (Kd.C_below HR0_4.out HB.out) | exact (Kd.C_below HR0_6.out HB.out) | (with_reducible refine Kd.C_alloc ?_ _) | (with_reducible refine Kd.C_drewN ?_ _) | (with_reducible refine Kd.C_drew ?_))); (case side2 | side4 | side6 => first | exact HC0_3.out | exact HC0_4.out | exact HC0_6.out); rintro e w13 ⟨rfl, hb⟩; refine ⟨_, rfl, ?_⟩; replace ae := Aside0.mk (blk_below (g := ak) (by (with_reducible repeat (first | refine blk_drewN ?_ _ | refine blk_drew ?_ | refine blk_alloc ?_ _)); exact ae.out) hb); replace aa := Aside0.mk (blk_below (g := ad) (by (with_reducible repeat (first | refine blk_drewN ?_ _ | refine blk_drew ?_ | refine blk_alloc ?_ _)); exact aa.out) hb); replace af := Aside0.mk (blk_below (g := ag) (by (with_reducible repeat (first | refine blk_drewN ?_ _ | refine blk_drew ?_ | refine blk_alloc ?_ _)); exact af.out) hb); replace HB := Aside0.mk (below_step (by repeat (first | (with_reducible first | exact HB.out | apply below_alloc | apply pw_below_drewN | apply below_drew1 | refine below_set ?_ al.out | refine below_set ?_ am.out | refine below_set ?_ an.out) | exact HB.out)) hb); (try clear hb); (try clear dh); (try clear hk); (try clear hi); have hnb14 := ay.out; have hnc14 := az.out; have hcz15_0 : w13.cell? ⟨ad, 0, none⟩ = some (.int .i64 ap) := (blk_cell aa.out 0).trans rfl; have hcz15_1 : w13.cell? ⟨ad, 1, none⟩ = some (.int .i64 aq) := (blk_cell aa.out 1).trans rfl; have hcz15_2 : w13.cell? ⟨ad, 2, none⟩ = some (.int .i64 ar) := (blk_cell aa.out 2).trans rfl; have hcz15_3 : w13.cell? ⟨ad, 3, none⟩ = some (.slice bn au.length bo) := (blk_cell aa.out 3).trans rfl; have hcz15_4 : w13.cell? ⟨ad, 4, none⟩ = some (.slice bp av.length bq) := (blk_cell aa.out 4).trans rfl; have hcz15_5 : w13.cell? ⟨ad, 5, none⟩ = some (.bool bi) := (blk_cell aa.out 5).trans rfl; have hcz15_6 : w13.cell? ⟨ad, 6, none⟩ = some (.slice bt ao.length bu) := (blk_cell aa.out 6).trans rfl; have hfz15_0 := blk_frozen aa.out 0; have hfz15_1 := blk_frozen aa.out 1; have hfz15_2 := blk_frozen aa.out 2; have hfz15_3 := blk_frozen aa.out 3; have hfz15_4 := blk_frozen aa.out 4; have hfz15_5 := blk_frozen aa.out 5; have hfz15_6 := blk_frozen aa.out 6) | (go_at_call 23; (with_reducible refine (attr_Change.calls ap aq ar _ _ au _ _ av bi _ _ ao t356 _ ?side1 ?side2 ?side3 ?side4 ?side5 ?side6 A9.out).mono ?_); (case side1 | side3 | side5 => repeat (first | exact (Kd.C_below HR1_3.out HB.out) | exact (Kd.C_below HR1_4.out HB.out) | exact (Kd.C_below HR1_6.out HB.out) | (with_reducible refine Kd.C_alloc ?_ _) | (with_reducible refine Kd.C_drewN ?_ _) | (with_reducible refine Kd.C_drew ?_))); (case side2 | side4 | side6 => first | exact HC1_3.out | exact HC1_4.out | exact HC1_6.out); rintro e w16 ⟨rfl, hb⟩; replace ae := Aside0.mk (blk_below (g := ak) (by (with_reducible repeat (first | refine blk_drewN ?_ _ | refine blk_drew ?_ | refine blk_alloc ?_ _)); exact ae.out) hb); replace aa := Aside0.mk (blk_below (g := ad) (by (with_reducible repeat (first | refine blk_drewN ?_ _ | refine blk_drew ?_ | refine blk_alloc ?_ _)); exact aa.out) hb); replace af := Aside0.mk (blk_below (g := ag) (by (with_reducible repeat (first | refine blk_drewN ?_ _ | refine blk_drew ?_ | refine blk_alloc ?_ _)); exact af.out) hb); replace HB := Aside0.mk (below_step (by repeat (first | (with_reducible first | exact HB.out | apply below_alloc | apply pw_below_drewN | apply below_drew1 | refine below_set ?_ al.out | refine below_set ?_ am.out | refine below_set ?_ an.out) | exact HB.out)) hb); (try clear hb); (try clear dh); (try clear hk); (try clear hi)))
   go_meet
   case rel => exact ⟨_, (!t356), (by first | rfl | (simp; done) | (simp [*]; done)), H', ⟨by first | omega | exact Nat.le_refl _⟩, ⟨by (with_reducible repeat (first | refine blk_drewN ?_ _ | refine blk_drew ?_ | refine blk_alloc ?_ _)); exact ae.out⟩, ⟨by (with_reducible repeat (first | refine blk_drewN ?_ _ | refine blk_drew ?_ | refine blk_alloc ?_ _)); exact aa.out⟩, ⟨by (with_reducible repeat (first | refine blk_drewN ?_ _ | refine blk_drew ?_ | refine blk_alloc ?_ _)); exact af.out⟩, ⟨by repeat (first | (with_reducible first | exact HB.out | apply below_alloc | apply pw_below_drewN | apply below_drew1 | refine below_set ?_ al.out | refine below_set ?_ am.out | refine below_set ?_ an.out) | exact HB.out)⟩⟩
  ·replace c8 := Bool.eq_false_iff.mpr c8
   subst c8
   have H1 : (attr_Do.j0 k true bv bw bx bk bl bz bm ap aq ar au av bi ao) = some (r1, r2, r3, r4, r5, r6, r7, r8) := by rw [if_neg (show ¬ (false = true) by decide)] at H; exact H
   clear H
   have H := H1
   clear H1
   have H' := Aside0.mk H
   clear H
   have hnb17 := aw.out
   have hnc17 := ax.out
   have hnb18 := NB352_354.out
   have hnc18 := NB354_352.out
   have hcz19_0 : w6.cell? ⟨ak, 0, none⟩ = some (.int .i64 bv) := (blk_cell ae.out 0).trans rfl
   have hcz19_1 : w6.cell? ⟨ak, 1, none⟩ = some (.int .i64 bw) := (blk_cell ae.out 1).trans rfl
   have hcz19_2 : w6.cell? ⟨ak, 2, none⟩ = some (.int .i64 bx) := (blk_cell ae.out 2).trans rfl
   have hcz19_3 : w6.cell? ⟨ak, 3, none⟩ = some (.slice b2 bk.length b3) := (blk_cell ae.out 3).trans rfl
   have hcz19_4 : w6.cell? ⟨ak, 4, none⟩ = some (.slice b4 bl.length b5) := (blk_cell ae.out 4).trans rfl
   have hcz19_5 : w6.cell? ⟨ak, 5, none⟩ = some (.int .i64 bz) := (blk_cell ae.out 5).trans rfl
   have hcz19_6 : w6.cell? ⟨ak, 6, none⟩ = some (.slice b6 bm.length b8) := (blk_cell ae.out 6).trans rfl
   have hfz19_0 := blk_frozen ae.out 0
   have hfz19_1 := blk_frozen ae.out 1
   have hfz19_2 := blk_frozen ae.out 2
   have hfz19_3 := blk_frozen ae.out 3
   have hfz19_4 := blk_frozen ae.out 4
   have hfz19_5 := blk_frozen ae.out 5
   have hfz19_6 := blk_frozen ae.out 6
   go_wp2_with (first | ((with_reducible refine gate_callee (f := 15) rfl ?_); refine goesL_ (some 12) rfl rfl Try.func15 (by kernel_rfl) rfl #[.agg #[.int .i64 bv, .int .i64 bw, .int .i64 bx, .slice b2 bk.length b3, .slice b4 bl.length b5, .int .i64 bz, .slice b6 bm.length b8]] rfl (by (try simp only [List.map_toArray, List.map_cons, List.map_nil]); first | done | rfl) ?_; (with_reducible refine (attr_May.calls k bv bw bx _ _ bk _ _ bl bz _ _ bm false _ ?side1 ?side2 ?side3 ?side4 ?side5 ?side6 A7.out).mono ?_); (case side1 | side3 | side5 => repeat (first | exact (Kd.C_below HR0_3.out HB.out) | exact (Kd.C_below HR0_4.out HB.out) | exact (Kd.C_below HR0_6.out HB.out) | (with_reducible refine Kd.C_alloc ?_ _) | (with_reducible refine Kd.C_drewN ?_ _) | (with_reducible refine Kd.C_drew ?_))); (case side2 | side4 | side6 => first | exact HC0_3.out | exact HC0_4.out | exact HC0_6.out); rintro e w20 ⟨rfl, hb⟩; refine ⟨_, rfl, ?_⟩; replace ae := Aside0.mk (blk_below (g := ak) (by (with_reducible repeat (first | refine blk_drewN ?_ _ | refine blk_drew ?_ | refine blk_alloc ?_ _)); exact ae.out) hb); replace aa := Aside0.mk (blk_below (g := ad) (by (with_reducible repeat (first | refine blk_drewN ?_ _ | refine blk_drew ?_ | refine blk_alloc ?_ _)); exact aa.out) hb); replace af := Aside0.mk (blk_below (g := ag) (by (with_reducible repeat (first | refine blk_drewN ?_ _ | refine blk_drew ?_ | refine blk_alloc ?_ _)); exact af.out) hb); replace HB := Aside0.mk (below_step (by repeat (first | (with_reducible first | exact HB.out | apply below_alloc | apply pw_below_drewN | apply below_drew1 | refine below_set ?_ al.out | refine below_set ?_ am.out | refine below_set ?_ an.out) | exact HB.out)) hb); (try clear hb); (try clear dh); (try clear hk); (try clear hi)))
   go_meet
   case rel => exact ⟨_, (true), (by first | rfl | (simp; done) | (simp [*]; done)), H', ⟨by first | omega | exact Nat.le_refl _⟩, ⟨by (with_reducible repeat (first | refine blk_drewN ?_ _ | refine blk_drew ?_ | refine blk_alloc ?_ _)); exact ae.out⟩, ⟨by (with_reducible repeat (first | refine blk_drewN ?_ _ | refine blk_drew ?_ | refine blk_alloc ?_ _)); exact aa.out⟩, ⟨by (with_reducible repeat (first | refine blk_drewN ?_ _ | refine blk_drew ?_ | refine blk_alloc ?_ _)); exact af.out⟩, ⟨by repeat (first | (with_reducible first | exact HB.out | apply below_alloc | apply pw_below_drewN | apply below_drew1 | refine below_set ?_ al.out | refine below_set ?_ am.out | refine below_set ?_ an.out) | exact HB.out)⟩⟩
 case rest =>
  clear HC3
  try clear c1
  try clear c2
  try clear p2
  try clear c8
  try clear c10
  try clear c11
  try clear c14
  try clear c15
  try clear c17
  try clear c18
  try clear hcz12_0
  try clear hcz12_1
  try clear hcz12_2
  try clear hcz12_3
  try clear hcz12_4
  try clear hcz12_5
  try clear hcz12_6
  try clear hcz15_0
  try clear hcz15_1
  try clear hcz15_2
  try clear hcz15_3
  try clear hcz15_4
  try clear hcz15_5
  try clear hcz15_6
  try clear hcz19_0
  try clear hcz19_1
  try clear hcz19_2
  try clear hcz19_3
  try clear hcz19_4
  try clear hcz19_5
  try clear hcz19_6
  try clear hfz12_0
  try clear hfz12_1
  try clear hfz12_2
  try clear hfz12_3
  try clear hfz12_4
  try clear hfz12_5
  try clear hfz12_6
  try clear hfz15_0
  try clear hfz15_1
  try clear hfz15_2
  try clear hfz15_3
  try clear hfz15_4
  try clear hfz15_5
  try clear hfz15_6
  try clear hfz19_0
  try clear hfz19_1
  try clear hfz19_2
  try clear hfz19_3
  try clear hfz19_4
  try clear hfz19_5
  try clear hfz19_6
  obtain ⟨kq, x18_2, rfl, HA, HJ2, ae, aa, af, HB⟩ := hcut
  cases kq with
  | zero => exact absurd HA.out (by simp [attr_Do.j0])
  | succ kj2 =>
   have H := HA.out
   clear HA
   simp only [attr_Do.j0] at H
   by_cases di : x18_2 = true
   ·subst di
    have H1 : (some (0, 0, 0, ([] : List Int), ([] : List (S63)), 0, ([] : List Int), 1)) = some (r1, r2, r3, r4, r5, r6, r7, r8) := by rw [if_pos rfl] at H; exact H
    clear H
    have H := H1
    clear H1
    simp only [Option.some.injEq, Prod.mk.injEq] at H
    obtain ⟨rfl, rfl, rfl, rfl, rfl, rfl, rfl, rfl⟩ := H
    have hnb22 := NB354_352.out
    have hnc22 := NB352_354.out
    have hnb23 := az.out
    have hnc23 := ay.out
    have hcz24_0 : wc.cell? ⟨ag, 0, none⟩ = some (.int .i64 0) := (blk_cell af.out 0).trans rfl
    have hcz24_1 : wc.cell? ⟨ag, 1, none⟩ = some (.int .i64 0) := (blk_cell af.out 1).trans rfl
    have hcz24_2 : wc.cell? ⟨ag, 2, none⟩ = some (.int .i64 0) := (blk_cell af.out 2).trans rfl
    have hcz24_3 : wc.cell? ⟨ag, 3, none⟩ = some (.slice none 0 0) := (blk_cell af.out 3).trans rfl
    have hcz24_4 : wc.cell? ⟨ag, 4, none⟩ = some (.slice none 0 0) := (blk_cell af.out 4).trans rfl
    have hcz24_5 : wc.cell? ⟨ag, 5, none⟩ = some (.int .i64 0) := (blk_cell af.out 5).trans rfl
    have hcz24_6 : wc.cell? ⟨ag, 6, none⟩ = some (.slice none 0 0) := (blk_cell af.out 6).trans rfl
    have hfz24_0 := blk_frozen af.out 0
    have hfz24_1 := blk_frozen af.out 1
    have hfz24_2 := blk_frozen af.out 2
    have hfz24_3 := blk_frozen af.out 3
    have hfz24_4 := blk_frozen af.out 4
    have hfz24_5 := blk_frozen af.out 5
    have hfz24_6 := blk_frozen af.out 6
    go_wp2
    refine bodyPost_ret (results_ct rfl _ _ ag 30 #[.int .i64 0, .int .i64 0, .int .i64 0, .slice none 0 0, .slice none 0 0, .int .i64 0, .slice none 0 0] (0, 0) _ rfl (by (with_reducible repeat (first | refine blk_drewN ?_ _ | refine blk_drew ?_ | refine blk_alloc ?_ _)); refine blk_put (cs := #[.int .i64 0, .int .i64 0, .int .i64 0, .slice none 0 0, .slice none 0 0, .int .i64 0, .slice none 0 0]) ?_ 6 _ rfl; (with_reducible repeat (first | refine blk_drewN ?_ _ | refine blk_drew ?_ | refine blk_alloc ?_ _)); refine blk_put (cs := #[.int .i64 0, .int .i64 0, .int .i64 0, .slice none 0 0, .slice none 0 0, .int .i64 0, .slice none 0 0]) ?_ 5 _ rfl; (with_reducible repeat (first | refine blk_drewN ?_ _ | refine blk_drew ?_ | refine blk_alloc ?_ _)); refine blk_put (cs := #[.int .i64 0, .int .i64 0, .int .i64 0, .slice none 0 0, .slice none 0 0, .int .i64 0, .slice none 0 0]) ?_ 4 _ rfl; (with_reducible repeat (first | refine blk_drewN ?_ _ | refine blk_drew ?_ | refine blk_alloc ?_ _)); refine blk_put (cs := #[.int .i64 0, .int .i64 0, .int .i64 0, .slice none 0 0, .slice none 0 0, .int .i64 0, .slice none 0 0]) ?_ 3 _ rfl; (with_reducible repeat (first | refine blk_drewN ?_ _ | refine blk_drew ?_ | refine blk_alloc ?_ _)); refine blk_put (cs := #[.int .i64 0, .int .i64 0, .int .i64 0, .slice none 0 0, .slice none 0 0, .int .i64 0, .slice none 0 0]) ?_ 2 _ rfl; (with_reducible repeat (first | refine blk_drewN ?_ _ | refine blk_drew ?_ | refine blk_alloc ?_ _)); refine blk_put (cs := #[.int .i64 0, .int .i64 0, .int .i64 0, .slice none 0 0, .slice none 0 0, .int .i64 0, .slice none 0 0]) ?_ 1 _ rfl; (with_reducible repeat (first | refine blk_drewN ?_ _ | refine blk_drew ?_ | refine blk_alloc ?_ _)); refine blk_put (cs := #[.int .i64 0, .int .i64 0, .int .i64 0, .slice none 0 0, .slice none 0 0, .int .i64 0, .slice none 0 0]) ?_ 0 _ rfl; (with_reducible repeat (first | refine blk_drewN ?_ _ | refine blk_drew ?_ | refine blk_alloc ?_ _)); exact af.out) Try.underlying30 rfl (by kernel_rfl)) rfl ?_
    exact ⟨_, _, _, by first | rfl | (simp [errW_none, errW_some] <;> rfl) | (simp [*, errW_none, errW_some] <;> rfl), by first | exact Kd.R_nil _ _ _ _ _ | exact Kd.N_nil _ _ _ _ _ | exact Kd.V_nil _ _ _ _ _ | exact Kd.Q_nil _ _ _ _ _ | exact Kd.S_nil _ _ _ _ _, by first | exact Kd.R_nil _ _ _ _ _ | exact Kd.N_nil _ _ _ _ _ | exact Kd.V_nil _ _ _ _ _ | exact Kd.Q_nil _ _ _ _ _ | exact Kd.S_nil _ _ _ _ _, by first | exact Kd.R_nil _ _ _ _ _ | exact Kd.N_nil _ _ _ _ _ | exact Kd.V_nil _ _ _ _ _ | exact Kd.Q_nil _ _ _ _ _ | exact Kd.S_nil _ _ _ _ _, by repeat (first | (with_reducible first | exact HB.out | apply below_alloc | apply pw_below_drewN | apply below_drew1 | refine below_set ?_ al.out | refine below_set ?_ am.out | refine below_set ?_ an.out) | exact HB.out)⟩
   ·replace di := Bool.eq_false_iff.mpr di
    subst di
    have H1 := H
    rw [if_neg (show ¬ (false = true) by decide)] at H1
    clear H
    have H := H1
    clear H1
    by_cases de : (ao.length : Int) > (wrap64 (16 - (bk.length : Int)))
    ·rw [if_pos de] at H
     have c25b0 : decide ((wrap64 (16 - (bk.length : Int))) < (ao.length : Int)) = true := decide_eq_true de
     clear de
     simp only [Option.some.injEq, Prod.mk.injEq] at H
     obtain ⟨rfl, rfl, rfl, rfl, rfl, rfl, rfl, rfl⟩ := H
     have hnb26 := ax.out
     have hnc26 := aw.out
     have hnb27 := ay.out
     have hnc27 := az.out
     have hcz28_0 : wc.cell? ⟨ad, 0, none⟩ = some (.int .i64 ap) := (blk_cell aa.out 0).trans rfl
     have hcz28_1 : wc.cell? ⟨ad, 1, none⟩ = some (.int .i64 aq) := (blk_cell aa.out 1).trans rfl
     have hcz28_2 : wc.cell? ⟨ad, 2, none⟩ = some (.int .i64 ar) := (blk_cell aa.out 2).trans rfl
     have hcz28_3 : wc.cell? ⟨ad, 3, none⟩ = some (.slice bn au.length bo) := (blk_cell aa.out 3).trans rfl
     have hcz28_4 : wc.cell? ⟨ad, 4, none⟩ = some (.slice bp av.length bq) := (blk_cell aa.out 4).trans rfl
     have hcz28_5 : wc.cell? ⟨ad, 5, none⟩ = some (.bool bi) := (blk_cell aa.out 5).trans rfl
     have hcz28_6 : wc.cell? ⟨ad, 6, none⟩ = some (.slice bt ao.length bu) := (blk_cell aa.out 6).trans rfl
     have hfz28_0 := blk_frozen aa.out 0
     have hfz28_1 := blk_frozen aa.out 1
     have hfz28_2 := blk_frozen aa.out 2
     have hfz28_3 := blk_frozen aa.out 3
     have hfz28_4 := blk_frozen aa.out 4
     have hfz28_5 := blk_frozen aa.out 5
     have hfz28_6 := blk_frozen aa.out 6
     have hnb29 := NB352_354.out
     have hnc29 := NB354_352.out
     have hcz30_0 : wc.cell? ⟨ak, 0, none⟩ = some (.int .i64 bv) := (blk_cell ae.out 0).trans rfl
     have hcz30_1 : wc.cell? ⟨ak, 1, none⟩ = some (.int .i64 bw) := (blk_cell ae.out 1).trans rfl
     have hcz30_2 : wc.cell? ⟨ak, 2, none⟩ = some (.int .i64 bx) := (blk_cell ae.out 2).trans rfl
     have hcz30_3 : wc.cell? ⟨ak, 3, none⟩ = some (.slice b2 bk.length b3) := (blk_cell ae.out 3).trans rfl
     have hcz30_4 : wc.cell? ⟨ak, 4, none⟩ = some (.slice b4 bl.length b5) := (blk_cell ae.out 4).trans rfl
     have hcz30_5 : wc.cell? ⟨ak, 5, none⟩ = some (.int .i64 bz) := (blk_cell ae.out 5).trans rfl
     have hcz30_6 : wc.cell? ⟨ak, 6, none⟩ = some (.slice b6 bm.length b8) := (blk_cell ae.out 6).trans rfl
     have hfz30_0 := blk_frozen ae.out 0
     have hfz30_1 := blk_frozen ae.out 1
     have hfz30_2 := blk_frozen ae.out 2
     have hfz30_3 := blk_frozen ae.out 3
     have hfz30_4 := blk_frozen ae.out 4
     have hfz30_5 := blk_frozen ae.out 5
     have hfz30_6 := blk_frozen ae.out 6
     have hcz31_0 : wc.cell? ⟨ag, 0, none⟩ = some (.int .i64 0) := (blk_cell af.out 0).trans rfl
     have hcz31_1 : wc.cell? ⟨ag, 1, none⟩ = some (.int .i64 0) := (blk_cell af.out 1).trans rfl
     have hcz31_2 : wc.cell? ⟨ag, 2, none⟩ = some (.int .i64 0) := (blk_cell af.out 2).trans rfl
     have hcz31_3 : wc.cell? ⟨ag, 3, none⟩ = some (.slice none 0 0) := (blk_cell af.out 3).trans rfl
     have hcz31_4 : wc.cell? ⟨ag, 4, none⟩ = some (.slice none 0 0) := (blk_cell af.out 4).trans rfl
     have hcz31_5 : wc.cell? ⟨ag, 5, none⟩ = some (.int .i64 0) := (blk_cell af.out 5).trans rfl
     have hcz31_6 : wc.cell? ⟨ag, 6, none⟩ = some (.slice none 0 0) := (blk_cell af.out 6).trans rfl
     have hfz31_0 := blk_frozen af.out 0
     have hfz31_1 := blk_frozen af.out 1
     have hfz31_2 := blk_frozen af.out 2
     have hfz31_3 := blk_frozen af.out 3
     have hfz31_4 := blk_frozen af.out 4
     have hfz31_5 := blk_frozen af.out 5
     have hfz31_6 := blk_frozen af.out 6
     go_wp2
     refine bodyPost_ret (results_ct rfl _ _ ag 30 #[.int .i64 0, .int .i64 0, .int .i64 0, .slice none 0 0, .slice none 0 0, .int .i64 0, .slice none 0 0] (0, 0) _ rfl (by (with_reducible repeat (first | refine blk_drewN ?_ _ | refine blk_drew ?_ | refine blk_alloc ?_ _)); refine blk_put (cs := #[.int .i64 0, .int .i64 0, .int .i64 0, .slice none 0 0, .slice none 0 0, .int .i64 0, .slice none 0 0]) ?_ 6 _ rfl; (with_reducible repeat (first | refine blk_drewN ?_ _ | refine blk_drew ?_ | refine blk_alloc ?_ _)); refine blk_put (cs := #[.int .i64 0, .int .i64 0, .int .i64 0, .slice none 0 0, .slice none 0 0, .int .i64 0, .slice none 0 0]) ?_ 5 _ rfl; (with_reducible repeat (first | refine blk_drewN ?_ _ | refine blk_drew ?_ | refine blk_alloc ?_ _)); refine blk_put (cs := #[.int .i64 0, .int .i64 0, .int .i64 0, .slice none 0 0, .slice none 0 0, .int .i64 0, .slice none 0 0]) ?_ 4 _ rfl; (with_reducible repeat (first | refine blk_drewN ?_ _ | refine blk_drew ?_ | refine blk_alloc ?_ _)); refine blk_put (cs := #[.int .i64 0, .int .i64 0, .int .i64 0, .slice none 0 0, .slice none 0 0, .int .i64 0, .slice none 0 0]) ?_ 3 _ rfl; (with_reducible repeat (first | refine blk_drewN ?_ _ | refine blk_drew ?_ | refine blk_alloc ?_ _)); refine blk_put (cs := #[.int .i64 0, .int .i64 0, .int .i64 0, .slice none 0 0, .slice none 0 0, .int .i64 0, .slice none 0 0]) ?_ 2 _ rfl; (with_reducible repeat (first | refine blk_drewN ?_ _ | refine blk_drew ?_ | refine blk_alloc ?_ _)); refine blk_put (cs := #[.int .i64 0, .int .i64 0, .int .i64 0, .slice none 0 0, .slice none 0 0, .int .i64 0, .slice none 0 0]) ?_ 1 _ rfl; (with_reducible repeat (first | refine blk_drewN ?_ _ | refine blk_drew ?_ | refine blk_alloc ?_ _)); refine blk_put (cs := #[.int .i64 0, .int .i64 0, .int .i64 0, .slice none 0 0, .slice none 0 0, .int .i64 0, .slice none 0 0]) ?_ 0 _ rfl; (with_reducible repeat (first | refine blk_drewN ?_ _ | refine blk_drew ?_ | refine blk_alloc ?_ _)); exact af.out) Try.underlying30 rfl (by kernel_rfl)) rfl ?_
     exact ⟨_, _, _, by first | rfl | (simp [errW_none, errW_some] <;> rfl) | (simp [*, errW_none, errW_some] <;> rfl), by first | exact Kd.R_nil _ _ _ _ _ | exact Kd.N_nil _ _ _ _ _ | exact Kd.V_nil _ _ _ _ _ | exact Kd.Q_nil _ _ _ _ _ | exact Kd.S_nil _ _ _ _ _, by first | exact Kd.R_nil _ _ _ _ _ | exact Kd.N_nil _ _ _ _ _ | exact Kd.V_nil _ _ _ _ _ | exact Kd.Q_nil _ _ _ _ _ | exact Kd.S_nil _ _ _ _ _, by first | exact Kd.R_nil _ _ _ _ _ | exact Kd.N_nil _ _ _ _ _ | exact Kd.V_nil _ _ _ _ _ | exact Kd.Q_nil _ _ _ _ _ | exact Kd.S_nil _ _ _ _ _, by repeat (first | (with_reducible first | exact HB.out | apply below_alloc | apply pw_below_drewN | apply below_drew1 | refine below_set ?_ al.out | refine below_set ?_ am.out | refine below_set ?_ an.out) | exact HB.out)⟩
    ·rw [if_neg de] at H
     have c25b0 : decide ((wrap64 (16 - (bk.length : Int))) < (ao.length : Int)) = false := decide_eq_false de
     clear de
     replace H := Option.bind_eq_some_iff.mp H
     obtain ⟨⟨t357, t358, t359, t360, t363, t366, t367⟩, A320, H⟩ := H
     (try dsimp only at H)
     have A32 := Aside0.mk A320
     clear A320
     have HC33 := Aside0.mk H
     clear H
     have hnb34 := ax.out
     have hnc34 := aw.out
     have hnb35 := ay.out
     have hnc35 := az.out
     have hcz36_0 : wc.cell? ⟨ad, 0, none⟩ = some (.int .i64 ap) := (blk_cell aa.out 0).trans rfl
     have hcz36_1 : wc.cell? ⟨ad, 1, none⟩ = some (.int .i64 aq) := (blk_cell aa.out 1).trans rfl
     have hcz36_2 : wc.cell? ⟨ad, 2, none⟩ = some (.int .i64 ar) := (blk_cell aa.out 2).trans rfl
     have hcz36_3 : wc.cell? ⟨ad, 3, none⟩ = some (.slice bn au.length bo) := (blk_cell aa.out 3).trans rfl
     have hcz36_4 : wc.cell? ⟨ad, 4, none⟩ = some (.slice bp av.length bq) := (blk_cell aa.out 4).trans rfl
     have hcz36_5 : wc.cell? ⟨ad, 5, none⟩ = some (.bool bi) := (blk_cell aa.out 5).trans rfl
     have hcz36_6 : wc.cell? ⟨ad, 6, none⟩ = some (.slice bt ao.length bu) := (blk_cell aa.out 6).trans rfl
     have hfz36_0 := blk_frozen aa.out 0
     have hfz36_1 := blk_frozen aa.out 1
     have hfz36_2 := blk_frozen aa.out 2
     have hfz36_3 := blk_frozen aa.out 3
     have hfz36_4 := blk_frozen aa.out 4
     have hfz36_5 := blk_frozen aa.out 5
     have hfz36_6 := blk_frozen aa.out 6
     have hnb37 := NB352_354.out
     have hnc37 := NB354_352.out
     have hcz38_0 : wc.cell? ⟨ak, 0, none⟩ = some (.int .i64 bv) := (blk_cell ae.out 0).trans rfl
     have hcz38_1 : wc.cell? ⟨ak, 1, none⟩ = some (.int .i64 bw) := (blk_cell ae.out 1).trans rfl
     have hcz38_2 : wc.cell? ⟨ak, 2, none⟩ = some (.int .i64 bx) := (blk_cell ae.out 2).trans rfl
     have hcz38_3 : wc.cell? ⟨ak, 3, none⟩ = some (.slice b2 bk.length b3) := (blk_cell ae.out 3).trans rfl
     have hcz38_4 : wc.cell? ⟨ak, 4, none⟩ = some (.slice b4 bl.length b5) := (blk_cell ae.out 4).trans rfl
     have hcz38_5 : wc.cell? ⟨ak, 5, none⟩ = some (.int .i64 bz) := (blk_cell ae.out 5).trans rfl
     have hcz38_6 : wc.cell? ⟨ak, 6, none⟩ = some (.slice b6 bm.length b8) := (blk_cell ae.out 6).trans rfl
     have hfz38_0 := blk_frozen ae.out 0
     have hfz38_1 := blk_frozen ae.out 1
     have hfz38_2 := blk_frozen ae.out 2
     have hfz38_3 := blk_frozen ae.out 3
     have hfz38_4 := blk_frozen ae.out 4
     have hfz38_5 := blk_frozen ae.out 5
     have hfz38_6 := blk_frozen ae.out 6
     go_upto_if 33 with (first | ((with_reducible refine gate_callee (f := 25) rfl ?_); refine goesL_ (some 30) rfl rfl Try.func25 (by kernel_rfl) rfl #[.agg #[.int .i64 bv, .int .i64 bw, .int .i64 bx, .slice b2 bk.length b3, .slice b4 bl.length b5, .int .i64 bz, .slice b6 bm.length b8]] rfl (by (try simp only [List.map_toArray, List.map_cons, List.map_nil]); first | done | rfl) ?_; (with_reducible refine (attr_Copy.calls bv bw bx _ _ bk _ _ bl bz _ _ bm t357 t358 t359 t360 t363 t366 t367 _ ?side1 ?side2 ?side3 ?side4 ?side5 ?side6 A32.out).mono ?_); (case side1 | side3 | side5 => repeat (first | exact (Kd.C_below HR0_3.out HB.out) | exact (Kd.C_below HR0_4.out HB.out) | exact (Kd.C_below HR0_6.out HB.out) | (with_reducible refine Kd.C_alloc ?_ _) | (with_reducible refine Kd.C_drewN ?_ _) | (with_reducible refine Kd.C_drew ?_))); (case side2 | side4 | side6 => first | exact HC0_3.out | exact HC0_4.out | exact HC0_6.out); rintro e w39 ⟨v361, v364, v368, rfl, ho0, ho1, ho2, hb⟩; refine ⟨_, rfl, ?_⟩; have HO362 := Aside0.mk (Kd.R_lower ho0 (below_size (by repeat (first | (with_reducible first | exact HB.out | apply below_alloc | apply pw_below_drewN | apply below_drew1 | refine below_set ?_ al.out | refine below_set ?_ am.out | refine below_set ?_ an.out) | exact HB.out)))); have HO365 := Aside0.mk (Kd.R_lower ho1 (below_size (by repeat (first | (with_reducible first | exact HB.out | apply below_alloc | apply pw_below_drewN | apply below_drew1 | refine below_set ?_ al.out | refine below_set ?_ am.out | refine below_set ?_ an.out) | exact HB.out)))); have HO369 := Aside0.mk (Kd.R_lower ho2 (below_size (by repeat (first | (with_reducible first | exact HB.out | apply below_alloc | apply pw_below_drewN | apply below_drew1 | refine below_set ?_ al.out | refine below_set ?_ am.out | refine below_set ?_ an.out) | exact HB.out)))); replace ae := Aside0.mk (blk_below (g := ak) (by (with_reducible repeat (first | refine blk_drewN ?_ _ | refine blk_drew ?_ | refine blk_alloc ?_ _)); exact ae.out) hb); replace aa := Aside0.mk (blk_below (g := ad) (by (with_reducible repeat (first | refine blk_drewN ?_ _ | refine blk_drew ?_ | refine blk_alloc ?_ _)); exact aa.out) hb); replace af := Aside0.mk (blk_below (g := ag) (by (with_reducible repeat (first | refine blk_drewN ?_ _ | refine blk_drew ?_ | refine blk_alloc ?_ _)); exact af.out) hb); replace HB := Aside0.mk (below_step (by repeat (first | (with_reducible first | exact HB.out | apply below_alloc | apply pw_below_drewN | apply below_drew1 | refine below_set ?_ al.out | refine below_set ?_ am.out | refine below_set ?_ an.out) | exact HB.out)) hb); (try clear hb); (try clear dh); (try clear hk); (try clear hi); (try clear ho0); (try clear ho1); (try clear ho2)) | ((with_reducible refine gate_dst (N := 6) rfl ?_); refine box_event ?hg (N := 6) ?hd (cs := #[.int .i64 0, .int .i64 0, .int .i64 0, .slice none 0 0, .slice none 0 0, .int .i64 0, .slice none 0 0]) (t := 30) ?hr ?_; (case hd => rfl); (case hg => rfl); (case hr => first | (go_simp; done) | (go_simp; rfl)); intro ac hg w40 hbox hb; have n0_ := Aside0.mk (Kd.R_below (by (with_reducible repeat (first | apply Kd.R_alloc | apply Kd.R_drewN | apply Kd.R_drew)); exact HO362.out) hb); have n1_ := Aside0.mk (Kd.R_below (by (with_reducible repeat (first | apply Kd.R_alloc | apply Kd.R_drewN | apply Kd.R_drew)); exact HO365.out) hb); have n2_ := Aside0.mk (Kd.R_below (by (with_reducible repeat (first | apply Kd.R_alloc | apply Kd.R_drewN | apply Kd.R_drew)); exact HO369.out) hb); have n3_ := Aside0.mk (blk_below (g := ak) (by (with_reducible repeat (first | refine blk_drewN ?_ _ | refine blk_drew ?_ | refine blk_alloc ?_ _)); exact ae.out) hb); have n4_ := Aside0.mk (blk_below (g := ad) (by (with_reducible repeat (first | refine blk_drewN ?_ _ | refine blk_drew ?_ | refine blk_alloc ?_ _)); exact aa.out) hb); have n5_ := Aside0.mk (blk_below (g := ag) (by (with_reducible repeat (first | refine blk_drewN ?_ _ | refine blk_drew ?_ | refine blk_alloc ?_ _)); exact af.out) hb); have n6_ := Aside0.mk (below_step (by repeat (first | (with_reducible first | exact HB.out | apply below_alloc | apply pw_below_drewN | apply below_drew1 | refine below_set ?_ al.out | refine below_set ?_ am.out | refine below_set ?_ an.out) | exact HB.out)) hb); have n7_ := Aside0.mk (hbox); have n8_ := Aside0.mk ((by rw [hg]; exact (below_size (by repeat (first | (with_reducible first | exact HB.out | apply below_alloc | apply pw_below_drewN | apply below_drew1 | refine below_set ?_ al.out | refine below_set ?_ am.out | refine below_set ?_ an.out) | exact HB.out))) : w.heap.size ≤ ac)); have n9_ := Aside0.mk ((by rw [hg]; exact (below_size (by repeat (first | (with_reducible first | exact HB.out | apply below_alloc | apply pw_below_drewN | apply below_drew1 | refine below_set ?_ al.out | refine below_set ?_ am.out | refine below_set ?_ an.out) | exact HB.out))) : w.heap.size ≤ ac)); have n10_ := Aside0.mk ((by rw [hg]; exact Nat.ne_of_lt (blk_lt (g := ak) (o := .cells #[.int .i64 bv, .int .i64 bw, .int .i64 bx, .slice b2 bk.length b3, .slice b4 bl.length b5, .int .i64 bz, .slice b6 bm.length b8] 30 (0, 0)) (by (with_reducible repeat (first | refine blk_drewN ?_ _ | refine blk_drew ?_ | refine blk_alloc ?_ _)); exact ae.out)) : ak ≠ ac)); have n11_ := Aside0.mk ((by rw [hg]; exact Nat.ne_of_gt (blk_lt (g := ak) (o := .cells #[.int .i64 bv, .int .i64 bw, .int .i64 bx, .slice b2 bk.length b3, .slice b4 bl.length b5, .int .i64 bz, .slice b6 bm.length b8] 30 (0, 0)) (by (with_reducible repeat (first | refine blk_drewN ?_ _ | refine blk_drew ?_ | refine blk_alloc ?_ _)); exact ae.out)) : ac ≠ ak)); have n12_ := Aside0.mk ((by rw [hg]; exact Nat.ne_of_lt (blk_lt (g := ad) (o := .cells #[.int .i64 ap, .int .i64 aq, .int .i64 ar, .slice bn au.length bo, .slice bp av.length bq, .bool bi, .slice bt ao.length bu] 37 (0, 0)) (by (with_reducible repeat (first | refine blk_drewN ?_ _ | refine blk_drew ?_ | refine blk_alloc ?_ _)); exact aa.out)) : ad ≠ ac)); have n13_ := Aside0.mk ((by rw [hg]; exact Nat.ne_of_gt (blk_lt (g := ad) (o := .cells #[.int .i64 ap, .int .i64 aq, .int .i64 ar, .slice bn au.length bo, .slice bp av.length bq, .bool bi, .slice bt ao.length bu] 37 (0, 0)) (by (with_reducible repeat (first | refine blk_drewN ?_ _ | refine blk_drew ?_ | refine blk_alloc ?_ _)); exact aa.out)) : ac ≠ ad)); have n14_ := Aside0.mk ((by rw [hg]; exact Nat.ne_of_lt (blk_lt (g := ag) (o := .cells #[.int .i64 0, .int .i64 0, .int .i64 0, .slice none 0 0, .slice none 0 0, .int .i64 0, .slice none 0 0] 30 (0, 0)) (by (with_reducible repeat (first | refine blk_drewN ?_ _ | refine blk_drew ?_ | refine blk_alloc ?_ _)); exact af.out)) : ag ≠ ac)); have n15_ := Aside0.mk ((by rw [hg]; exact Nat.ne_of_gt (blk_lt (g := ag) (o := .cells #[.int .i64 0, .int .i64 0, .int .i64 0, .slice none 0 0, .slice none 0 0, .int .i64 0, .slice none 0 0] 30 (0, 0)) (by (with_reducible repeat (first | refine blk_drewN ?_ _ | refine blk_drew ?_ | refine blk_alloc ?_ _)); exact af.out)) : ac ≠ ag)); clear HO362; clear HO365; clear HO369; clear ae; clear aa; clear af; clear HB; have HO362 := n0_; have HO365 := n1_; have HO369 := n2_; have ae := n3_; have aa := n4_; have af := n5_; have HB := n6_; have ab := n7_; have GW370 := n8_; have bj := n9_; have aj := n10_; have br := n11_; have ah := n12_; have be := n13_; have ai := n14_; have bs := n15_; clear n0_ n1_ n2_ n3_ n4_ n5_ n6_ n7_ n8_ n9_ n10_ n11_ n12_ n13_ n14_ n15_; clear hb hbox hg; have hnb41 := br.out; have hnc41 := aj.out; have hnb42 := be.out; have hnc42 := ah.out; have hnb43 := bs.out; have hnc43 := ai.out; have hcz44_0 : w40.cell? ⟨ac, 0, none⟩ = some (.int .i64 0) := (blk_cell ab.out 0).trans rfl; have hcz44_1 : w40.cell? ⟨ac, 1, none⟩ = some (.int .i64 0) := (blk_cell ab.out 1).trans rfl; have hcz44_2 : w40.cell? ⟨ac, 2, none⟩ = some (.int .i64 0) := (blk_cell ab.out 2).trans rfl; have hcz44_3 : w40.cell? ⟨ac, 3, none⟩ = some (.slice none 0 0) := (blk_cell ab.out 3).trans rfl; have hcz44_4 : w40.cell? ⟨ac, 4, none⟩ = some (.slice none 0 0) := (blk_cell ab.out 4).trans rfl; have hcz44_5 : w40.cell? ⟨ac, 5, none⟩ = some (.int .i64 0) := (blk_cell ab.out 5).trans rfl; have hcz44_6 : w40.cell? ⟨ac, 6, none⟩ = some (.slice none 0 0) := (blk_cell ab.out 6).trans rfl; have hfz44_0 := blk_frozen ab.out 0; have hfz44_1 := blk_frozen ab.out 1; have hfz44_2 := blk_frozen ab.out 2; have hfz44_3 := blk_frozen ab.out 3; have hfz44_4 := blk_frozen ab.out 4; have hfz44_5 := blk_frozen ab.out 5; have hfz44_6 := blk_frozen ab.out 6; obtain ⟨ba, bb, eo45⟩ := Kd.R_slice HO362.out; subst eo45; obtain ⟨b0, b1, eo46⟩ := Kd.R_slice HO365.out; subst eo46; obtain ⟨bf, bg, eo47⟩ := Kd.R_slice HO369.out; subst eo47; have hcz48_0 : w40.cell? ⟨ad, 0, none⟩ = some (.int .i64 ap) := (blk_cell aa.out 0).trans rfl; have hcz48_1 : w40.cell? ⟨ad, 1, none⟩ = some (.int .i64 aq) := (blk_cell aa.out 1).trans rfl; have hcz48_2 : w40.cell? ⟨ad, 2, none⟩ = some (.int .i64 ar) := (blk_cell aa.out 2).trans rfl; have hcz48_3 : w40.cell? ⟨ad, 3, none⟩ = some (.slice bn au.length bo) := (blk_cell aa.out 3).trans rfl; have hcz48_4 : w40.cell? ⟨ad, 4, none⟩ = some (.slice bp av.length bq) := (blk_cell aa.out 4).trans rfl; have hcz48_5 : w40.cell? ⟨ad, 5, none⟩ = some (.bool bi) := (blk_cell aa.out 5).trans rfl; have hcz48_6 : w40.cell? ⟨ad, 6, none⟩ = some (.slice bt ao.length bu) := (blk_cell aa.out 6).trans rfl; have hfz48_0 := blk_frozen aa.out 0; have hfz48_1 := blk_frozen aa.out 1; have hfz48_2 := blk_frozen aa.out 2; have hfz48_3 := blk_frozen aa.out 3; have hfz48_4 := blk_frozen aa.out 4; have hfz48_5 := blk_frozen aa.out 5; have hfz48_6 := blk_frozen aa.out 6))
     (try simp only [Act.put, List.setIfInBounds_toArray, List.set_cons_zero, List.set_cons_succ])
     go_cut [] (fun wc => ∃ (kq : Nat) (x371000_32 : Int), Aside0 (attr_Do.j1 kq ap aq ar au av bi ao x371000_32 t358 t359 t360 t363 t366 t367 = some (r1, r2, r3, r4, r5, r6, r7, r8)) ∧ Aside0 (kq ≤ kj2) ∧ Aside0 (Kd.R (Kd.int .i64) 3 wc w.heap.size (fun k_ => some k_ ≠ ((.slice bf t367.length bg) : Value).ownBlock) (.slice ba t360.length bb) t360) ∧ Aside0 (Kd.R k63 63 wc w.heap.size (fun _ => True) (.slice b0 t363.length b1) t363) ∧ Aside0 (Kd.R (Kd.int .i64) 3 wc w.heap.size (fun k_ => some k_ ≠ ((.slice ba t360.length bb) : Value).ownBlock) (.slice bf t367.length bg) t367) ∧ Aside0 (wc.heap[ak]? = some (.cells #[.int .i64 bv, .int .i64 bw, .int .i64 bx, (.slice b2 bk.length b3), (.slice b4 bl.length b5), .int .i64 bz, (.slice b6 bm.length b8)] 30 (0, 0))) ∧ Aside0 (wc.heap[ad]? = some (.cells #[.int .i64 ap, .int .i64 aq, .int .i64 ar, (.slice bn au.length bo), (.slice bp av.length bq), .bool bi, (.slice bt ao.length bu)] 37 (0, 0))) ∧ Aside0 (wc.heap[ag]? = some (.cells #[.int .i64 0, .int .i64 0, .int .i64 0, (.slice none 0 0), (.slice none 0 0), .int .i64 0, (.slice none 0 0)] 30 (0, 0))) ∧ Aside0 (wc.heap[ac]? = some (.cells #[.int .i64 x371000_32, .int .i64 t358, .int .i64 t359, (.slice ba t360.length bb), (.slice b0 t363.length b1), .int .i64 t366, (.slice bf t367.length bg)] 30 (0, 0))) ∧ Aside0 (Below w.heap.size w wc))
     case first =>
      have H := HC33.out
      clear HC33
      by_cases df : ap ≥ 0
      ·rw [if_pos df] at H
       have c49b0 : decide (0 ≤ ap) = true := decide_eq_true df
       clear df
       (first | rw [c49b0] | (simp only [i64_w, i32_w]; rw [c49b0]) | skip)
       have H' := Aside0.mk H
       clear H
       have hnb50 := ax.out
       have hnc50 := aw.out
       have hnb51 := ay.out
       have hnc51 := az.out
       have hnb52 := ah.out
       have hnc52 := be.out
       have hcz53_0 : w40.cell? ⟨ad, 0, none⟩ = some (.int .i64 ap) := (blk_cell aa.out 0).trans rfl
       have hcz53_1 : w40.cell? ⟨ad, 1, none⟩ = some (.int .i64 aq) := (blk_cell aa.out 1).trans rfl
       have hcz53_2 : w40.cell? ⟨ad, 2, none⟩ = some (.int .i64 ar) := (blk_cell aa.out 2).trans rfl
       have hcz53_3 : w40.cell? ⟨ad, 3, none⟩ = some (.slice bn au.length bo) := (blk_cell aa.out 3).trans rfl
       have hcz53_4 : w40.cell? ⟨ad, 4, none⟩ = some (.slice bp av.length bq) := (blk_cell aa.out 4).trans rfl
       have hcz53_5 : w40.cell? ⟨ad, 5, none⟩ = some (.bool bi) := (blk_cell aa.out 5).trans rfl
       have hcz53_6 : w40.cell? ⟨ad, 6, none⟩ = some (.slice bt ao.length bu) := (blk_cell aa.out 6).trans rfl
       have hfz53_0 := blk_frozen aa.out 0
       have hfz53_1 := blk_frozen aa.out 1
       have hfz53_2 := blk_frozen aa.out 2
       have hfz53_3 := blk_frozen aa.out 3
       have hfz53_4 := blk_frozen aa.out 4
       have hfz53_5 := blk_frozen aa.out 5
       have hfz53_6 := blk_frozen aa.out 6
       have hnb54 := br.out
       have hnc54 := aj.out
       have hnb55 := bs.out
       have hnc55 := ai.out
       have hcz56_0 : w40.cell? ⟨ac, 0, none⟩ = some (.int .i64 0) := (blk_cell ab.out 0).trans rfl
       have hcz56_1 : w40.cell? ⟨ac, 1, none⟩ = some (.int .i64 0) := (blk_cell ab.out 1).trans rfl
       have hcz56_2 : w40.cell? ⟨ac, 2, none⟩ = some (.int .i64 0) := (blk_cell ab.out 2).trans rfl
       have hcz56_3 : w40.cell? ⟨ac, 3, none⟩ = some (.slice none 0 0) := (blk_cell ab.out 3).trans rfl
       have hcz56_4 : w40.cell? ⟨ac, 4, none⟩ = some (.slice none 0 0) := (blk_cell ab.out 4).trans rfl
       have hcz56_5 : w40.cell? ⟨ac, 5, none⟩ = some (.int .i64 0) := (blk_cell ab.out 5).trans rfl
       have hcz56_6 : w40.cell? ⟨ac, 6, none⟩ = some (.slice none 0 0) := (blk_cell ab.out 6).trans rfl
       have hfz56_0 := blk_frozen ab.out 0
       have hfz56_1 := blk_frozen ab.out 1
       have hfz56_2 := blk_frozen ab.out 2
       have hfz56_3 := blk_frozen ab.out 3
       have hfz56_4 := blk_frozen ab.out 4
       have hfz56_5 := blk_frozen ab.out 5
       have hfz56_6 := blk_frozen ab.out 6
       go_wp2
       go_meet
       case rel => exact ⟨_, (ap), H', ⟨by have := HJ2.out; first | omega | exact Nat.le_refl _⟩, ⟨by (with_reducible repeat (first | apply Kd.R_alloc | apply Kd.R_drewN | apply Kd.R_drew)); exact Kd.R_mono (Kd.R_far (p := ⟨ac, 0, none⟩) (Kd.R_far (p := ⟨ac, 6, none⟩) (Kd.R_far (p := ⟨ac, 5, none⟩) (Kd.R_far (p := ⟨ac, 4, none⟩) (Kd.R_far (p := ⟨ac, 3, none⟩) (Kd.R_far (p := ⟨ac, 2, none⟩) (Kd.R_far (p := ⟨ac, 1, none⟩) (Kd.R_far (p := ⟨ac, 0, none⟩) (Kd.R_types HO362.out ab.out (by decide)) (fun _ hk => hk.2) (.int .i64 t357)) (fun _ hk => hk.2) (.int .i64 t358)) (fun _ hk => hk.2) (.int .i64 t359)) (fun _ hk => hk.2) (.slice ba t360.length bb)) (fun _ hk => hk.2) (.slice b0 t363.length b1)) (fun _ hk => hk.2) (.int .i64 t366)) (fun _ hk => hk.2) (.slice bf t367.length bg)) (fun _ hk => hk.2) (.int .i64 ap)) (fun _ hk => hk.1)⟩, ⟨by (with_reducible repeat (first | apply Kd.R_alloc | apply Kd.R_drewN | apply Kd.R_drew)); exact Kd.R_mono (Kd.R_far (p := ⟨ac, 0, none⟩) (Kd.R_far (p := ⟨ac, 6, none⟩) (Kd.R_far (p := ⟨ac, 5, none⟩) (Kd.R_far (p := ⟨ac, 4, none⟩) (Kd.R_far (p := ⟨ac, 3, none⟩) (Kd.R_far (p := ⟨ac, 2, none⟩) (Kd.R_far (p := ⟨ac, 1, none⟩) (Kd.R_far (p := ⟨ac, 0, none⟩) (Kd.R_types HO365.out ab.out (by decide)) (fun _ hk => hk.2) (.int .i64 t357)) (fun _ hk => hk.2) (.int .i64 t358)) (fun _ hk => hk.2) (.int .i64 t359)) (fun _ hk => hk.2) (.slice ba t360.length bb)) (fun _ hk => hk.2) (.slice b0 t363.length b1)) (fun _ hk => hk.2) (.int .i64 t366)) (fun _ hk => hk.2) (.slice bf t367.length bg)) (fun _ hk => hk.2) (.int .i64 ap)) (fun _ hk => trivial)⟩, ⟨by (with_reducible repeat (first | apply Kd.R_alloc | apply Kd.R_drewN | apply Kd.R_drew)); exact Kd.R_mono (Kd.R_far (p := ⟨ac, 0, none⟩) (Kd.R_far (p := ⟨ac, 6, none⟩) (Kd.R_far (p := ⟨ac, 5, none⟩) (Kd.R_far (p := ⟨ac, 4, none⟩) (Kd.R_far (p := ⟨ac, 3, none⟩) (Kd.R_far (p := ⟨ac, 2, none⟩) (Kd.R_far (p := ⟨ac, 1, none⟩) (Kd.R_far (p := ⟨ac, 0, none⟩) (Kd.R_types HO369.out ab.out (by decide)) (fun _ hk => hk.2) (.int .i64 t357)) (fun _ hk => hk.2) (.int .i64 t358)) (fun _ hk => hk.2) (.int .i64 t359)) (fun _ hk => hk.2) (.slice ba t360.length bb)) (fun _ hk => hk.2) (.slice b0 t363.length b1)) (fun _ hk => hk.2) (.int .i64 t366)) (fun _ hk => hk.2) (.slice bf t367.length bg)) (fun _ hk => hk.2) (.int .i64 ap)) (fun _ hk => hk.1)⟩, ⟨by (with_reducible repeat (first | refine blk_drewN ?_ _ | refine blk_drew ?_ | refine blk_alloc ?_ _)); refine blk_far ?_ aj.out _; (with_reducible repeat (first | refine blk_drewN ?_ _ | refine blk_drew ?_ | refine blk_alloc ?_ _)); refine blk_far ?_ aj.out _; (with_reducible repeat (first | refine blk_drewN ?_ _ | refine blk_drew ?_ | refine blk_alloc ?_ _)); refine blk_far ?_ aj.out _; (with_reducible repeat (first | refine blk_drewN ?_ _ | refine blk_drew ?_ | refine blk_alloc ?_ _)); refine blk_far ?_ aj.out _; (with_reducible repeat (first | refine blk_drewN ?_ _ | refine blk_drew ?_ | refine blk_alloc ?_ _)); refine blk_far ?_ aj.out _; (with_reducible repeat (first | refine blk_drewN ?_ _ | refine blk_drew ?_ | refine blk_alloc ?_ _)); refine blk_far ?_ aj.out _; (with_reducible repeat (first | refine blk_drewN ?_ _ | refine blk_drew ?_ | refine blk_alloc ?_ _)); refine blk_far ?_ aj.out _; (with_reducible repeat (first | refine blk_drewN ?_ _ | refine blk_drew ?_ | refine blk_alloc ?_ _)); refine blk_far ?_ aj.out _; (with_reducible repeat (first | refine blk_drewN ?_ _ | refine blk_drew ?_ | refine blk_alloc ?_ _)); exact ae.out⟩, ⟨by (with_reducible repeat (first | refine blk_drewN ?_ _ | refine blk_drew ?_ | refine blk_alloc ?_ _)); refine blk_far ?_ ah.out _; (with_reducible repeat (first | refine blk_drewN ?_ _ | refine blk_drew ?_ | refine blk_alloc ?_ _)); refine blk_far ?_ ah.out _; (with_reducible repeat (first | refine blk_drewN ?_ _ | refine blk_drew ?_ | refine blk_alloc ?_ _)); refine blk_far ?_ ah.out _; (with_reducible repeat (first | refine blk_drewN ?_ _ | refine blk_drew ?_ | refine blk_alloc ?_ _)); refine blk_far ?_ ah.out _; (with_reducible repeat (first | refine blk_drewN ?_ _ | refine blk_drew ?_ | refine blk_alloc ?_ _)); refine blk_far ?_ ah.out _; (with_reducible repeat (first | refine blk_drewN ?_ _ | refine blk_drew ?_ | refine blk_alloc ?_ _)); refine blk_far ?_ ah.out _; (with_reducible repeat (first | refine blk_drewN ?_ _ | refine blk_drew ?_ | refine blk_alloc ?_ _)); refine blk_far ?_ ah.out _; (with_reducible repeat (first | refine blk_drewN ?_ _ | refine blk_drew ?_ | refine blk_alloc ?_ _)); refine blk_far ?_ ah.out _; (with_reducible repeat (first | refine blk_drewN ?_ _ | refine blk_drew ?_ | refine blk_alloc ?_ _)); exact aa.out⟩, ⟨by (with_reducible repeat (first | refine blk_drewN ?_ _ | refine blk_drew ?_ | refine blk_alloc ?_ _)); refine blk_far ?_ ai.out _; (with_reducible repeat (first | refine blk_drewN ?_ _ | refine blk_drew ?_ | refine blk_alloc ?_ _)); refine blk_far ?_ ai.out _; (with_reducible repeat (first | refine blk_drewN ?_ _ | refine blk_drew ?_ | refine blk_alloc ?_ _)); refine blk_far ?_ ai.out _; (with_reducible repeat (first | refine blk_drewN ?_ _ | refine blk_drew ?_ | refine blk_alloc ?_ _)); refine blk_far ?_ ai.out _; (with_reducible repeat (first | refine blk_drewN ?_ _ | refine blk_drew ?_ | refine blk_alloc ?_ _)); refine blk_far ?_ ai.out _; (with_reducible repeat (first | refine blk_drewN ?_ _ | refine blk_drew ?_ | refine blk_alloc ?_ _)); refine blk_far ?_ ai.out _; (with_reducible repeat (first | refine blk_drewN ?_ _ | refine blk_drew ?_ | refine blk_alloc ?_ _)); refine blk_far ?_ ai.out _; (with_reducible repeat (first | refine blk_drewN ?_ _ | refine blk_drew ?_ | refine blk_alloc ?_ _)); refine blk_far ?_ ai.out _; (with_reducible repeat (first | refine blk_drewN ?_ _ | refine blk_drew ?_ | refine blk_alloc ?_ _)); exact af.out⟩, ⟨by (with_reducible repeat (first | refine blk_drewN ?_ _ | refine blk_drew ?_ | refine blk_alloc ?_ _)); refine blk_put (cs := #[.int .i64 t357, .int .i64 t358, .int .i64 t359, .slice ba t360.length bb, .slice b0 t363.length b1, .int .i64 t366, .slice bf t367.length bg]) ?_ 0 _ rfl; (with_reducible repeat (first | refine blk_drewN ?_ _ | refine blk_drew ?_ | refine blk_alloc ?_ _)); refine blk_put (cs := #[.int .i64 t357, .int .i64 t358, .int .i64 t359, .slice ba t360.length bb, .slice b0 t363.length b1, .int .i64 t366, .slice none 0 0]) ?_ 6 _ rfl; (with_reducible repeat (first | refine blk_drewN ?_ _ | refine blk_drew ?_ | refine blk_alloc ?_ _)); refine blk_put (cs := #[.int .i64 t357, .int .i64 t358, .int .i64 t359, .slice ba t360.length bb, .slice b0 t363.length b1, .int .i64 0, .slice none 0 0]) ?_ 5 _ rfl; (with_reducible repeat (first | refine blk_drewN ?_ _ | refine blk_drew ?_ | refine blk_alloc ?_ _)); refine blk_put (cs := #[.int .i64 t357, .int .i64 t358, .int .i64 t359, .slice ba t360.length bb, .slice none 0 0, .int .i64 0, .slice none 0 0]) ?_ 4 _ rfl; (with_reducible repeat (first | refine blk_drewN ?_ _ | refine blk_drew ?_ | refine blk_alloc ?_ _)); refine blk_put (cs := #[.int .i64 t357, .int .i64 t358, .int .i64 t359, .slice none 0 0, .slice none 0 0, .int .i64 0, .slice none 0 0]) ?_ 3 _ rfl; (with_reducible repeat (first | refine blk_drewN ?_ _ | refine blk_drew ?_ | refine blk_alloc ?_ _)); refine blk_put (cs := #[.int .i64 t357, .int .i64 t358, .int .i64 0, .slice none 0 0, .slice none 0 0, .int .i64 0, .slice none 0 0]) ?_ 2 _ rfl; (with_reducible repeat (first | refine blk_drewN ?_ _ | refine blk_drew ?_ | refine blk_alloc ?_ _)); refine blk_put (cs := #[.int .i64 t357, .int .i64 0, .int .i64 0, .slice none 0 0, .slice none 0 0, .int .i64 0, .slice none 0 0]) ?_ 1 _ rfl; (with_reducible repeat (first | refine blk_drewN ?_ _ | refine blk_drew ?_ | refine blk_alloc ?_ _)); refine blk_put (cs := #[.int .i64 0, .int .i64 0, .int .i64 0, .slice none 0 0, .slice none 0 0, .int .i64 0, .slice none 0 0]) ?_ 0 _ rfl; (with_reducible repeat (first | refine blk_drewN ?_ _ | refine blk_drew ?_ | refine blk_alloc ?_ _)); exact ab.out⟩, ⟨by repeat (first | (with_reducible first | exact HB.out | apply below_alloc | apply pw_below_drewN | apply below_drew1 | refine below_set ?_ al.out | refine below_set ?_ am.out | refine below_set ?_ an.out | refine below_set ?_ bj.out) | exact HB.out)⟩⟩
      ·rw [if_neg df] at H
       have c49b0 : decide (0 ≤ ap) = false := decide_eq_false df
       clear df
       (first | rw [c49b0] | (simp only [i64_w, i32_w]; rw [c49b0]) | skip)
       have H' := Aside0.mk H
       clear H
       go_wp2
       go_meet
       case rel => exact ⟨_, (t357), H', ⟨by have := HJ2.out; first | omega | exact Nat.le_refl _⟩, ⟨by (with_reducible repeat (first | apply Kd.R_alloc | apply Kd.R_drewN | apply Kd.R_drew)); exact Kd.R_mono (Kd.R_far (p := ⟨ac, 6, none⟩) (Kd.R_far (p := ⟨ac, 5, none⟩) (Kd.R_far (p := ⟨ac, 4, none⟩) (Kd.R_far (p := ⟨ac, 3, none⟩) (Kd.R_far (p := ⟨ac, 2, none⟩) (Kd.R_far (p := ⟨ac, 1, none⟩) (Kd.R_far (p := ⟨ac, 0, none⟩) (Kd.R_types HO362.out ab.out (by decide)) (fun _ hk => hk.2) (.int .i64 t357)) (fun _ hk => hk.2) (.int .i64 t358)) (fun _ hk => hk.2) (.int .i64 t359)) (fun _ hk => hk.2) (.slice ba t360.length bb)) (fun _ hk => hk.2) (.slice b0 t363.length b1)) (fun _ hk => hk.2) (.int .i64 t366)) (fun _ hk => hk.2) (.slice bf t367.length bg)) (fun _ hk => hk.1)⟩, ⟨by (with_reducible repeat (first | apply Kd.R_alloc | apply Kd.R_drewN | apply Kd.R_drew)); exact Kd.R_mono (Kd.R_far (p := ⟨ac, 6, none⟩) (Kd.R_far (p := ⟨ac, 5, none⟩) (Kd.R_far (p := ⟨ac, 4, none⟩) (Kd.R_far (p := ⟨ac, 3, none⟩) (Kd.R_far (p := ⟨ac, 2, none⟩) (Kd.R_far (p := ⟨ac, 1, none⟩) (Kd.R_far (p := ⟨ac, 0, none⟩) (Kd.R_types HO365.out ab.out (by decide)) (fun _ hk => hk.2) (.int .i64 t357)) (fun _ hk => hk.2) (.int .i64 t358)) (fun _ hk => hk.2) (.int .i64 t359)) (fun _ hk => hk.2) (.slice ba t360.length bb)) (fun _ hk => hk.2) (.slice b0 t363.length b1)) (fun _ hk => hk.2) (.int .i64 t366)) (fun _ hk => hk.2) (.slice bf t367.length bg)) (fun _ hk => trivial)⟩, ⟨by (with_reducible repeat (first | apply Kd.R_alloc | apply Kd.R_drewN | apply Kd.R_drew)); exact Kd.R_mono (Kd.R_far (p := ⟨ac, 6, none⟩) (Kd.R_far (p := ⟨ac, 5, none⟩) (Kd.R_far (p := ⟨ac, 4, none⟩) (Kd.R_far (p := ⟨ac, 3, none⟩) (Kd.R_far (p := ⟨ac, 2, none⟩) (Kd.R_far (p := ⟨ac, 1, none⟩) (Kd.R_far (p := ⟨ac, 0, none⟩) (Kd.R_types HO369.out ab.out (by decide)) (fun _ hk => hk.2) (.int .i64 t357)) (fun _ hk => hk.2) (.int .i64 t358)) (fun _ hk => hk.2) (.int .i64 t359)) (fun _ hk => hk.2) (.slice ba t360.length bb)) (fun _ hk => hk.2) (.slice b0 t363.length b1)) (fun _ hk => hk.2) (.int .i64 t366)) (fun _ hk => hk.2) (.slice bf t367.length bg)) (fun _ hk => hk.1)⟩, ⟨by (with_reducible repeat (first | refine blk_drewN ?_ _ | refine blk_drew ?_ | refine blk_alloc ?_ _)); refine blk_far ?_ aj.out _; (with_reducible repeat (first | refine blk_drewN ?_ _ | refine blk_drew ?_ | refine blk_alloc ?_ _)); refine blk_far ?_ aj.out _; (with_reducible repeat (first | refine blk_drewN ?_ _ | refine blk_drew ?_ | refine blk_alloc ?_ _)); refine blk_far ?_ aj.out _; (with_reducible repeat (first | refine blk_drewN ?_ _ | refine blk_drew ?_ | refine blk_alloc ?_ _)); refine blk_far ?_ aj.out _; (with_reducible repeat (first | refine blk_drewN ?_ _ | refine blk_drew ?_ | refine blk_alloc ?_ _)); refine blk_far ?_ aj.out _; (with_reducible repeat (first | refine blk_drewN ?_ _ | refine blk_drew ?_ | refine blk_alloc ?_ _)); refine blk_far ?_ aj.out _; (with_reducible repeat (first | refine blk_drewN ?_ _ | refine blk_drew ?_ | refine blk_alloc ?_ _)); refine blk_far ?_ aj.out _; (with_reducible repeat (first | refine blk_drewN ?_ _ | refine blk_drew ?_ | refine blk_alloc ?_ _)); exact ae.out⟩, ⟨by (with_reducible repeat (first | refine blk_drewN ?_ _ | refine blk_drew ?_ | refine blk_alloc ?_ _)); refine blk_far ?_ ah.out _; (with_reducible repeat (first | refine blk_drewN ?_ _ | refine blk_drew ?_ | refine blk_alloc ?_ _)); refine blk_far ?_ ah.out _; (with_reducible repeat (first | refine blk_drewN ?_ _ | refine blk_drew ?_ | refine blk_alloc ?_ _)); refine blk_far ?_ ah.out _; (with_reducible repeat (first | refine blk_drewN ?_ _ | refine blk_drew ?_ | refine blk_alloc ?_ _)); refine blk_far ?_ ah.out _; (with_reducible repeat (first | refine blk_drewN ?_ _ | refine blk_drew ?_ | refine blk_alloc ?_ _)); refine blk_far ?_ ah.out _; (with_reducible repeat (first | refine blk_drewN ?_ _ | refine blk_drew ?_ | refine blk_alloc ?_ _)); refine blk_far ?_ ah.out _; (with_reducible repeat (first | refine blk_drewN ?_ _ | refine blk_drew ?_ | refine blk_alloc ?_ _)); refine blk_far ?_ ah.out _; (with_reducible repeat (first | refine blk_drewN ?_ _ | refine blk_drew ?_ | refine blk_alloc ?_ _)); exact aa.out⟩, ⟨by (with_reducible repeat (first | refine blk_drewN ?_ _ | refine blk_drew ?_ | refine blk_alloc ?_ _)); refine blk_far ?_ ai.out _; (with_reducible repeat (first | refine blk_drewN ?_ _ | refine blk_drew ?_ | refine blk_alloc ?_ _)); refine blk_far ?_ ai.out _; (with_reducible repeat (first | refine blk_drewN ?_ _ | refine blk_drew ?_ | refine blk_alloc ?_ _)); refine blk_far ?_ ai.out _; (with_reducible repeat (first | refine blk_drewN ?_ _ | refine blk_drew ?_ | refine blk_alloc ?_ _)); refine blk_far ?_ ai.out _; (with_reducible repeat (first | refine blk_drewN ?_ _ | refine blk_drew ?_ | refine blk_alloc ?_ _)); refine blk_far ?_ ai.out _; (with_reducible repeat (first | refine blk_drewN ?_ _ | refine blk_drew ?_ | refine blk_alloc ?_ _)); refine blk_far ?_ ai.out _; (with_reducible repeat (first | refine blk_drewN ?_ _ | refine blk_drew ?_ | refine blk_alloc ?_ _)); refine blk_far ?_ ai.out _; (with_reducible repeat (first | refine blk_drewN ?_ _ | refine blk_drew ?_ | refine blk_alloc ?_ _)); exact af.out⟩, ⟨by (with_reducible repeat (first | refine blk_drewN ?_ _ | refine blk_drew ?_ | refine blk_alloc ?_ _)); refine blk_put (cs := #[.int .i64 t357, .int .i64 t358, .int .i64 t359, .slice ba t360.length bb, .slice b0 t363.length b1, .int .i64 t366, .slice none 0 0]) ?_ 6 _ rfl; (with_reducible repeat (first | refine blk_drewN ?_ _ | refine blk_drew ?_ | refine blk_alloc ?_ _)); refine blk_put (cs := #[.int .i64 t357, .int .i64 t358, .int .i64 t359, .slice ba t360.length bb, .slice b0 t363.length b1, .int .i64 0, .slice none 0 0]) ?_ 5 _ rfl; (with_reducible repeat (first | refine blk_drewN ?_ _ | refine blk_drew ?_ | refine blk_alloc ?_ _)); refine blk_put (cs := #[.int .i64 t357, .int .i64 t358, .int .i64 t359, .slice ba t360.length bb, .slice none 0 0, .int .i64 0, .slice none 0 0]) ?_ 4 _ rfl; (with_reducible repeat (first | refine blk_drewN ?_ _ | refine blk_drew ?_ | refine blk_alloc ?_ _)); refine blk_put (cs := #[.int .i64 t357, .int .i64 t358, .int .i64 t359, .slice none 0 0, .slice none 0 0, .int .i64 0, .slice none 0 0]) ?_ 3 _ rfl; (with_reducible repeat (first | refine blk_drewN ?_ _ | refine blk_drew ?_ | refine blk_alloc ?_ _)); refine blk_put (cs := #[.int .i64 t357, .int .i64 t358, .int .i64 0, .slice none 0 0, .slice none 0 0, .int .i64 0, .slice none 0 0]) ?_ 2 _ rfl; (with_reducible repeat (first | refine blk_drewN ?_ _ | refine blk_drew ?_ | refine blk_alloc ?_ _)); refine blk_put (cs := #[.int .i64 t357, .int .i64 0, .int .i64 0, .slice none 0 0, .slice none 0 0, .int .i64 0, .slice none 0 0]) ?_ 1 _ rfl; (with_reducible repeat (first | refine blk_drewN ?_ _ | refine blk_drew ?_ | refine blk_alloc ?_ _)); refine blk_put (cs := #[.int .i64 0, .int .i64 0, .int .i64 0, .slice none 0 0, .slice none 0 0, .int .i64 0, .slice none 0 0]) ?_ 0 _ rfl; (with_reducible repeat (first | refine blk_drewN ?_ _ | refine blk_drew ?_ | refine blk_alloc ?_ _)); exact ab.out⟩, ⟨by repeat (first | (with_reducible first | exact HB.out | apply below_alloc | apply pw_below_drewN | apply below_drew1 | refine below_set ?_ al.out | refine below_set ?_ am.out | refine below_set ?_ an.out | refine below_set ?_ bj.out) | exact HB.out)⟩⟩
     case rest =>
      clear HC33
      try clear c1
      try clear c2
      try clear p2
      try clear c3
      try clear c4
      try clear c5
      try clear p6
      try clear c8
      try clear c10
      try clear c11
      try clear c14
      try clear c15
      try clear c17
      try clear c18
      try clear di
      try clear c22
      try clear c23
      try clear de
      try clear c25b0
      try clear c26
      try clear c27
      try clear c29
      try clear c34
      try clear c35
      try clear c37
      try clear c41
      try clear c42
      try clear c43
      try clear df
      try clear c49b0
      try clear c50
      try clear c51
      try clear c52
      try clear c54
      try clear c55
      try clear hcz12_0
      try clear hcz12_1
      try clear hcz12_2
      try clear hcz12_3
      try clear hcz12_4
      try clear hcz12_5
      try clear hcz12_6
      try clear hcz15_0
      try clear hcz15_1
      try clear hcz15_2
      try clear hcz15_3
      try clear hcz15_4
      try clear hcz15_5
      try clear hcz15_6
      try clear hcz19_0
      try clear hcz19_1
      try clear hcz19_2
      try clear hcz19_3
      try clear hcz19_4
      try clear hcz19_5
      try clear hcz19_6
      try clear hcz24_0
      try clear hcz24_1
      try clear hcz24_2
      try clear hcz24_3
      try clear hcz24_4
      try clear hcz24_5
      try clear hcz24_6
      try clear hcz28_0
      try clear hcz28_1
      try clear hcz28_2
      try clear hcz28_3
      try clear hcz28_4
      try clear hcz28_5
      try clear hcz28_6
      try clear hcz30_0
      try clear hcz30_1
      try clear hcz30_2
      try clear hcz30_3
      try clear hcz30_4
      try clear hcz30_5
      try clear hcz30_6
      try clear hcz31_0
      try clear hcz31_1
      try clear hcz31_2
      try clear hcz31_3
      try clear hcz31_4
      try clear hcz31_5
      try clear hcz31_6
      try clear hcz36_0
      try clear hcz36_1
      try clear hcz36_2
      try clear hcz36_3
      try clear hcz36_4
      try clear hcz36_5
      try clear hcz36_6
      try clear hcz38_0
      try clear hcz38_1
      try clear hcz38_2
      try clear hcz38_3
      try clear hcz38_4
      try clear hcz38_5
      try clear hcz38_6
      try clear hcz44_0
      try clear hcz44_1
      try clear hcz44_2
      try clear hcz44_3
      try clear hcz44_4
      try clear hcz44_5
      try clear hcz44_6
      try clear hcz48_0
      try clear hcz48_1
      try clear hcz48_2
      try clear hcz48_3
      try clear hcz48_4
      try clear hcz48_5
      try clear hcz48_6
      try clear hcz53_0
      try clear hcz53_1
      try clear hcz53_2
      try clear hcz53_3
      try clear hcz53_4
      try clear hcz53_5
      try clear hcz53_6
      try clear hcz56_0
      try clear hcz56_1
      try clear hcz56_2
      try clear hcz56_3
      try clear hcz56_4
      try clear hcz56_5
      try clear hcz56_6
      try clear hfz12_0
      try clear hfz12_1
      try clear hfz12_2
      try clear hfz12_3
      try clear hfz12_4
      try clear hfz12_5
      try clear hfz12_6
      try clear hfz15_0
      try clear hfz15_1
      try clear hfz15_2
      try clear hfz15_3
      try clear hfz15_4
      try clear hfz15_5
      try clear hfz15_6
      try clear hfz19_0
      try clear hfz19_1
      try clear hfz19_2
      try clear hfz19_3
      try clear hfz19_4
      try clear hfz19_5
      try clear hfz19_6
      try clear hfz24_0
      try clear hfz24_1
      try clear hfz24_2
      try clear hfz24_3
      try clear hfz24_4
      try clear hfz24_5
      try clear hfz24_6
      try clear hfz28_0
      try clear hfz28_1
      try clear hfz28_2
      try clear hfz28_3
      try clear hfz28_4
      try clear hfz28_5
      try clear hfz28_6
      try clear hfz30_0
      try clear hfz30_1
      try clear hfz30_2
      try clear hfz30_3
      try clear hfz30_4
      try clear hfz30_5
      try clear hfz30_6
      try clear hfz31_0
      try clear hfz31_1
      try clear hfz31_2
      try clear hfz31_3
      try clear hfz31_4
      try clear hfz31_5
      try clear hfz31_6
      try clear hfz36_0
      try clear hfz36_1
      try clear hfz36_2
      try clear hfz36_3
      try clear hfz36_4
      try clear hfz36_5
      try clear hfz36_6
      try clear hfz38_0
      try clear hfz38_1
      try clear hfz38_2
      try clear hfz38_3
      try clear hfz38_4
      try clear hfz38_5
      try clear hfz38_6
      try clear hfz44_0
      try clear hfz44_1
      try clear hfz44_2
      try clear hfz44_3
      try clear hfz44_4
      try clear hfz44_5
      try clear hfz44_6
      try clear hfz48_0
      try clear hfz48_1
      try clear hfz48_2
      try clear hfz48_3
      try clear hfz48_4
      try clear hfz48_5
      try clear hfz48_6
      try clear hfz53_0
      try clear hfz53_1
      try clear hfz53_2
      try clear hfz53_3
      try clear hfz53_4
      try clear hfz53_5
      try clear hfz53_6
      try clear hfz56_0
      try clear hfz56_1
      try clear hfz56_2
      try clear hfz56_3
      try clear hfz56_4
      try clear hfz56_5
      try clear hfz56_6
      try clear p2
      obtain ⟨kq, x371000_32, HA, HJ32, HO_371003, HO_371004, HO_371006, ae, aa, af, ab, HB⟩ := hcut
      cases kq with
      | zero => exact absurd HA.out (by simp [attr_Do.j1])
      | succ kj32 =>
       have H := HA.out
       clear HA
       simp only [attr_Do.j1] at H
       have HC57 := Aside0.mk H
       clear H
       have hnb58 := ax.out
       have hnc58 := aw.out
       have hnb59 := ay.out
       have hnc59 := az.out
       have hnb60 := ah.out
       have hnc60 := be.out
       have hcz61_0 : wc.cell? ⟨ad, 0, none⟩ = some (.int .i64 ap) := (blk_cell aa.out 0).trans rfl
       have hcz61_1 : wc.cell? ⟨ad, 1, none⟩ = some (.int .i64 aq) := (blk_cell aa.out 1).trans rfl
       have hcz61_2 : wc.cell? ⟨ad, 2, none⟩ = some (.int .i64 ar) := (blk_cell aa.out 2).trans rfl
       have hcz61_3 : wc.cell? ⟨ad, 3, none⟩ = some (.slice bn au.length bo) := (blk_cell aa.out 3).trans rfl
       have hcz61_4 : wc.cell? ⟨ad, 4, none⟩ = some (.slice bp av.length bq) := (blk_cell aa.out 4).trans rfl
       have hcz61_5 : wc.cell? ⟨ad, 5, none⟩ = some (.bool bi) := (blk_cell aa.out 5).trans rfl
       have hcz61_6 : wc.cell? ⟨ad, 6, none⟩ = some (.slice bt ao.length bu) := (blk_cell aa.out 6).trans rfl
       have hfz61_0 := blk_frozen aa.out 0
       have hfz61_1 := blk_frozen aa.out 1
       have hfz61_2 := blk_frozen aa.out 2
       have hfz61_3 := blk_frozen aa.out 3
       have hfz61_4 := blk_frozen aa.out 4
       have hfz61_5 := blk_frozen aa.out 5
       have hfz61_6 := blk_frozen aa.out 6
       go_upto_if 39 with (fail)
       go_cut [] (fun wc => ∃ (kq : Nat) (x371001_56 : Int), Aside0 (attr_Do.j2 kq ap aq ar au av bi ao x371000_32 x371001_56 t359 t360 t363 t366 t367 = some (r1, r2, r3, r4, r5, r6, r7, r8)) ∧ Aside0 (kq ≤ kj32) ∧ Aside0 (Kd.R (Kd.int .i64) 3 wc w.heap.size (fun k_ => some k_ ≠ ((.slice bf t367.length bg) : Value).ownBlock) (.slice ba t360.length bb) t360) ∧ Aside0 (Kd.R k63 63 wc w.heap.size (fun _ => True) (.slice b0 t363.length b1) t363) ∧ Aside0 (Kd.R (Kd.int .i64) 3 wc w.heap.size (fun k_ => some k_ ≠ ((.slice ba t360.length bb) : Value).ownBlock) (.slice bf t367.length bg) t367) ∧ Aside0 (wc.heap[ak]? = some (.cells #[.int .i64 bv, .int .i64 bw, .int .i64 bx, (.slice b2 bk.length b3), (.slice b4 bl.length b5), .int .i64 bz, (.slice b6 bm.length b8)] 30 (0, 0))) ∧ Aside0 (wc.heap[ad]? = some (.cells #[.int .i64 ap, .int .i64 aq, .int .i64 ar, (.slice bn au.length bo), (.slice bp av.length bq), .bool bi, (.slice bt ao.length bu)] 37 (0, 0))) ∧ Aside0 (wc.heap[ag]? = some (.cells #[.int .i64 0, .int .i64 0, .int .i64 0, (.slice none 0 0), (.slice none 0 0), .int .i64 0, (.slice none 0 0)] 30 (0, 0))) ∧ Aside0 (wc.heap[ac]? = some (.cells #[.int .i64 x371000_32, .int .i64 x371001_56, .int .i64 t359, (.slice ba t360.length bb), (.slice b0 t363.length b1), .int .i64 t366, (.slice bf t367.length bg)] 30 (0, 0))) ∧ Aside0 (Below w.heap.size w wc))
       case first =>
        have H := HC57.out
        clear HC57
        by_cases dg : aq ≥ 0
        ·rw [if_pos dg] at H
         have c62b0 : decide (0 ≤ aq) = true := decide_eq_true dg
         clear dg
         (first | rw [c62b0] | (simp only [i64_w, i32_w]; rw [c62b0]) | skip)
         have H' := Aside0.mk H
         clear H
         have hnb63 := ax.out
         have hnc63 := aw.out
         have hnb64 := ay.out
         have hnc64 := az.out
         have hnb65 := ah.out
         have hnc65 := be.out
         have hcz66_0 : wc.cell? ⟨ad, 0, none⟩ = some (.int .i64 ap) := (blk_cell aa.out 0).trans rfl
         have hcz66_1 : wc.cell? ⟨ad, 1, none⟩ = some (.int .i64 aq) := (blk_cell aa.out 1).trans rfl
         have hcz66_2 : wc.cell? ⟨ad, 2, none⟩ = some (.int .i64 ar) := (blk_cell aa.out 2).trans rfl
         have hcz66_3 : wc.cell? ⟨ad, 3, none⟩ = some (.slice bn au.length bo) := (blk_cell aa.out 3).trans rfl
         have hcz66_4 : wc.cell? ⟨ad, 4, none⟩ = some (.slice bp av.length bq) := (blk_cell aa.out 4).trans rfl
         have hcz66_5 : wc.cell? ⟨ad, 5, none⟩ = some (.bool bi) := (blk_cell aa.out 5).trans rfl
         have hcz66_6 : wc.cell? ⟨ad, 6, none⟩ = some (.slice bt ao.length bu) := (blk_cell aa.out 6).trans rfl
         have hfz66_0 := blk_frozen aa.out 0
         have hfz66_1 := blk_frozen aa.out 1
         have hfz66_2 := blk_frozen aa.out 2
         have hfz66_3 := blk_frozen aa.out 3
         have hfz66_4 := blk_frozen aa.out 4
         have hfz66_5 := blk_frozen aa.out 5
         have hfz66_6 := blk_frozen aa.out 6
         have hnb67 := br.out
         have hnc67 := aj.out
         have hnb68 := bs.out
         have hnc68 := ai.out
         have hcz69_0 : wc.cell? ⟨ac, 0, none⟩ = some (.int .i64 x371000_32) := (blk_cell ab.out 0).trans rfl
         have hcz69_1 : wc.cell? ⟨ac, 1, none⟩ = some (.int .i64 t358) := (blk_cell ab.out 1).trans rfl
         have hcz69_2 : wc.cell? ⟨ac, 2, none⟩ = some (.int .i64 t359) := (blk_cell ab.out 2).trans rfl
         have hcz69_3 : wc.cell? ⟨ac, 3, none⟩ = some (.slice ba t360.length bb) := (blk_cell ab.out 3).trans rfl
         have hcz69_4 : wc.cell? ⟨ac, 4, none⟩ = some (.slice b0 t363.length b1) := (blk_cell ab.out 4).trans rfl
         have hcz69_5 : wc.cell? ⟨ac, 5, none⟩ = some (.int .i64 t366) := (blk_cell ab.out 5).trans rfl
         have hcz69_6 : wc.cell? ⟨ac, 6, none⟩ = some (.slice bf t367.length bg) := (blk_cell ab.out 6).trans rfl
         have hfz69_0 := blk_frozen ab.out 0
         have hfz69_1 := blk_frozen ab.out 1
         have hfz69_2 := blk_frozen ab.out 2
         have hfz69_3 := blk_frozen ab.out 3
         have hfz69_4 := blk_frozen ab.out 4
         have hfz69_5 := blk_frozen ab.out 5
         have hfz69_6 := blk_frozen ab.out 6
         go_wp2
         go_meet
         case rel => exact ⟨_, (aq), H', ⟨by have := HJ2.out; have := HJ32.out; first | omega | exact Nat.le_refl _⟩, ⟨by (with_reducible repeat (first | apply Kd.R_alloc | apply Kd.R_drewN | apply Kd.R_drew)); exact Kd.R_mono (Kd.R_far (p := ⟨ac, 1, none⟩) (Kd.R_types HO_371003.out ab.out (by decide)) (fun _ hk => hk.2) (.int .i64 aq)) (fun _ hk => hk.1)⟩, ⟨by (with_reducible repeat (first | apply Kd.R_alloc | apply Kd.R_drewN | apply Kd.R_drew)); exact Kd.R_mono (Kd.R_far (p := ⟨ac, 1, none⟩) (Kd.R_types HO_371004.out ab.out (by decide)) (fun _ hk => hk.2) (.int .i64 aq)) (fun _ hk => trivial)⟩, ⟨by (with_reducible repeat (first | apply Kd.R_alloc | apply Kd.R_drewN | apply Kd.R_drew)); exact Kd.R_mono (Kd.R_far (p := ⟨ac, 1, none⟩) (Kd.R_types HO_371006.out ab.out (by decide)) (fun _ hk => hk.2) (.int .i64 aq)) (fun _ hk => hk.1)⟩, ⟨by (with_reducible repeat (first | refine blk_drewN ?_ _ | refine blk_drew ?_ | refine blk_alloc ?_ _)); refine blk_far ?_ aj.out _; (with_reducible repeat (first | refine blk_drewN ?_ _ | refine blk_drew ?_ | refine blk_alloc ?_ _)); exact ae.out⟩, ⟨by (with_reducible repeat (first | refine blk_drewN ?_ _ | refine blk_drew ?_ | refine blk_alloc ?_ _)); refine blk_far ?_ ah.out _; (with_reducible repeat (first | refine blk_drewN ?_ _ | refine blk_drew ?_ | refine blk_alloc ?_ _)); exact aa.out⟩, ⟨by (with_reducible repeat (first | refine blk_drewN ?_ _ | refine blk_drew ?_ | refine blk_alloc ?_ _)); refine blk_far ?_ ai.out _; (with_reducible repeat (first | refine blk_drewN ?_ _ | refine blk_drew ?_ | refine blk_alloc ?_ _)); exact af.out⟩, ⟨by (with_reducible repeat (first | refine blk_drewN ?_ _ | refine blk_drew ?_ | refine blk_alloc ?_ _)); refine blk_put (cs := #[.int .i64 x371000_32, .int .i64 t358, .int .i64 t359, .slice ba t360.length bb, .slice b0 t363.length b1, .int .i64 t366, .slice bf t367.length bg]) ?_ 1 _ rfl; (with_reducible repeat (first | refine blk_drewN ?_ _ | refine blk_drew ?_ | refine blk_alloc ?_ _)); exact ab.out⟩, ⟨by repeat (first | (with_reducible first | exact HB.out | apply below_alloc | apply pw_below_drewN | apply below_drew1 | refine below_set ?_ al.out | refine below_set ?_ am.out | refine below_set ?_ an.out | refine below_set ?_ bj.out) | exact HB.out)⟩⟩
        ·rw [if_neg dg] at H
         have c62b0 : decide (0 ≤ aq) = false := decide_eq_false dg
         clear dg
         (first | rw [c62b0] | (simp only [i64_w, i32_w]; rw [c62b0]) | skip)
         have H' := Aside0.mk H
         clear H
         go_wp2
         go_meet
         case rel => exact ⟨_, (t358), H', ⟨by have := HJ2.out; have := HJ32.out; first | omega | exact Nat.le_refl _⟩, ⟨by (with_reducible repeat (first | apply Kd.R_alloc | apply Kd.R_drewN | apply Kd.R_drew)); exact HO_371003.out⟩, ⟨by (with_reducible repeat (first | apply Kd.R_alloc | apply Kd.R_drewN | apply Kd.R_drew)); exact HO_371004.out⟩, ⟨by (with_reducible repeat (first | apply Kd.R_alloc | apply Kd.R_drewN | apply Kd.R_drew)); exact HO_371006.out⟩, ⟨by (with_reducible repeat (first | refine blk_drewN ?_ _ | refine blk_drew ?_ | refine blk_alloc ?_ _)); exact ae.out⟩, ⟨by (with_reducible repeat (first | refine blk_drewN ?_ _ | refine blk_drew ?_ | refine blk_alloc ?_ _)); exact aa.out⟩, ⟨by (with_reducible repeat (first | refine blk_drewN ?_ _ | refine blk_drew ?_ | refine blk_alloc ?_ _)); exact af.out⟩, ⟨by (with_reducible repeat (first | refine blk_drewN ?_ _ | refine blk_drew ?_ | refine blk_alloc ?_ _)); exact ab.out⟩, ⟨by repeat (first | (with_reducible first | exact HB.out | apply below_alloc | apply pw_below_drewN | apply below_drew1 | refine below_set ?_ al.out | refine below_set ?_ am.out | refine below_set ?_ an.out | refine below_set ?_ bj.out) | exact HB.out)⟩⟩
       case rest =>
        clear HC57
        try clear c1
        try clear c2
        try clear p2
        try clear c3
        try clear c4
        try clear c5
        try clear c6
        try clear p6
        try clear c8
        try clear c10
        try clear c11
        try clear c14
        try clear c15
        try clear c17
        try clear c18
        try clear di
        try clear c22
        try clear c23
        try clear de
        try clear c25b0
        try clear c26
        try clear c27
        try clear c29
        try clear c34
        try clear c35
        try clear c37
        try clear c41
        try clear c42
        try clear c43
        try clear df
        try clear c49b0
        try clear c50
        try clear c51
        try clear c52
        try clear c54
        try clear c55
        try clear c58
        try clear c59
        try clear c60
        try clear dg
        try clear c62b0
        try clear c63
        try clear c64
        try clear p64
        try clear c65
        try clear c67
        try clear c68
        try clear hcz12_0
        try clear hcz12_1
        try clear hcz12_2
        try clear hcz12_3
        try clear hcz12_4
        try clear hcz12_5
        try clear hcz12_6
        try clear hcz15_0
        try clear hcz15_1
        try clear hcz15_2
        try clear hcz15_3
        try clear hcz15_4
        try clear hcz15_5
        try clear hcz15_6
        try clear hcz19_0
        try clear hcz19_1
        try clear hcz19_2
        try clear hcz19_3
        try clear hcz19_4
        try clear hcz19_5
        try clear hcz19_6
        try clear hcz24_0
        try clear hcz24_1
        try clear hcz24_2
        try clear hcz24_3
        try clear hcz24_4
        try clear hcz24_5
        try clear hcz24_6
        try clear hcz28_0
        try clear hcz28_1
        try clear hcz28_2
        try clear hcz28_3
        try clear hcz28_4
        try clear hcz28_5
        try clear hcz28_6
        try clear hcz30_0
        try clear hcz30_1
        try clear hcz30_2
        try clear hcz30_3
        try clear hcz30_4
        try clear hcz30_5
        try clear hcz30_6
        try clear hcz31_0
        try clear hcz31_1
        try clear hcz31_2
        try clear hcz31_3
        try clear hcz31_4
        try clear hcz31_5
        try clear hcz31_6
        try clear hcz36_0
        try clear hcz36_1
        try clear hcz36_2
        try clear hcz36_3
        try clear hcz36_4
        try clear hcz36_5
        try clear hcz36_6
        try clear hcz38_0
        try clear hcz38_1
        try clear hcz38_2
        try clear hcz38_3
        try clear hcz38_4
        try clear hcz38_5
        try clear hcz38_6
        try clear hcz44_0
        try clear hcz44_1
        try clear hcz44_2
        try clear hcz44_3
        try clear hcz44_4
        try clear hcz44_5
        try clear hcz44_6
        try clear hcz48_0
        try clear hcz48_1
        try clear hcz48_2
        try clear hcz48_3
        try clear hcz48_4
        try clear hcz48_5
        try clear hcz48_6
        try clear hcz53_0
        try clear hcz53_1
        try clear hcz53_2
        try clear hcz53_3
        try clear hcz53_4
        try clear hcz53_5
        try clear hcz53_6
        try clear hcz56_0
        try clear hcz56_1
        try clear hcz56_2
        try clear hcz56_3
        try clear hcz56_4
        try clear hcz56_5
        try clear hcz56_6
        try clear hcz61_0
        try clear hcz61_1
        try clear hcz61_2
        try clear hcz61_3
        try clear hcz61_4
        try clear hcz61_5
        try clear hcz61_6
        try clear hcz66_0
        try clear hcz66_1
        try clear hcz66_2
        try clear hcz66_3
        try clear hcz66_4
        try clear hcz66_5
        try clear hcz66_6
        try clear hcz69_0
        try clear hcz69_1
        try clear hcz69_2
        try clear hcz69_3
        try clear hcz69_4
        try clear hcz69_5
        try clear hcz69_6
        try clear hfz12_0
        try clear hfz12_1
        try clear hfz12_2
        try clear hfz12_3
        try clear hfz12_4
        try clear hfz12_5
        try clear hfz12_6
        try clear hfz15_0
        try clear hfz15_1
        try clear hfz15_2
        try clear hfz15_3
        try clear hfz15_4
        try clear hfz15_5
        try clear hfz15_6
        try clear hfz19_0
        try clear hfz19_1
        try clear hfz19_2
        try clear hfz19_3
        try clear hfz19_4
        try clear hfz19_5
        try clear hfz19_6
        try clear hfz24_0
        try clear hfz24_1
        try clear hfz24_2
        try clear hfz24_3
        try clear hfz24_4
        try clear hfz24_5
        try clear hfz24_6
        try clear hfz28_0
        try clear hfz28_1
        try clear hfz28_2
        try clear hfz28_3
        try clear hfz28_4
        try clear hfz28_5
        try clear hfz28_6
        try clear hfz30_0
        try clear hfz30_1
        try clear hfz30_2
        try clear hfz30_3
        try clear hfz30_4
        try clear hfz30_5
        try clear hfz30_6
        try clear hfz31_0
        try clear hfz31_1
        try clear hfz31_2
        try clear hfz31_3
        try clear hfz31_4
        try clear hfz31_5
        try clear hfz31_6
        try clear hfz36_0
        try clear hfz36_1
        try clear hfz36_2
        try clear hfz36_3
        try clear hfz36_4
        try clear hfz36_5
        try clear hfz36_6
        try clear hfz38_0
        try clear hfz38_1
        try clear hfz38_2
        try clear hfz38_3
        try clear hfz38_4
        try clear hfz38_5
        try clear hfz38_6
        try clear hfz44_0
        try clear hfz44_1
        try clear hfz44_2
        try clear hfz44_3
        try clear hfz44_4
        try clear hfz44_5
        try clear hfz44_6
        try clear hfz48_0
        try clear hfz48_1
        try clear hfz48_2
        try clear hfz48_3
        try clear hfz48_4
        try clear hfz48_5
        try clear hfz48_6
        try clear hfz53_0
        try clear hfz53_1
        try clear hfz53_2
        try clear hfz53_3
        try clear hfz53_4
        try clear hfz53_5
        try clear hfz53_6
        try clear hfz56_0
        try clear hfz56_1
        try clear hfz56_2
        try clear hfz56_3
        try clear hfz56_4
        try clear hfz56_5
        try clear hfz56_6
        try clear hfz61_0
        try clear hfz61_1
        try clear hfz61_2
        try clear hfz61_3
        try clear hfz61_4
        try clear hfz61_5
        try clear hfz61_6
        try clear hfz66_0
        try clear hfz66_1
        try clear hfz66_2
        try clear hfz66_3
        try clear hfz66_4
        try clear hfz66_5
        try clear hfz66_6
        try clear hfz69_0
        try clear hfz69_1
        try clear hfz69_2
        try clear hfz69_3
        try clear hfz69_4
        try clear hfz69_5
        try clear hfz69_6
        try clear p2
        try clear p6
        obtain ⟨kq, x371001_56, HA, HJ56, HO_371003, HO_371004, HO_371006, ae, aa, af, ab, HB⟩ := hcut
        cases kq with
        | zero => exact absurd HA.out (by simp [attr_Do.j2])
        | succ kj56 =>
         have H := HA.out
         clear HA
         simp only [attr_Do.j2] at H
         have HC70 := Aside0.mk H
         clear H
         have hnb71 := ax.out
         have hnc71 := aw.out
         have hnb72 := ay.out
         have hnc72 := az.out
         have hnb73 := ah.out
         have hnc73 := be.out
         have hcz74_0 : wc.cell? ⟨ad, 0, none⟩ = some (.int .i64 ap) := (blk_cell aa.out 0).trans rfl
         have hcz74_1 : wc.cell? ⟨ad, 1, none⟩ = some (.int .i64 aq) := (blk_cell aa.out 1).trans rfl
         have hcz74_2 : wc.cell? ⟨ad, 2, none⟩ = some (.int .i64 ar) := (blk_cell aa.out 2).trans rfl
         have hcz74_3 : wc.cell? ⟨ad, 3, none⟩ = some (.slice bn au.length bo) := (blk_cell aa.out 3).trans rfl
         have hcz74_4 : wc.cell? ⟨ad, 4, none⟩ = some (.slice bp av.length bq) := (blk_cell aa.out 4).trans rfl
         have hcz74_5 : wc.cell? ⟨ad, 5, none⟩ = some (.bool bi) := (blk_cell aa.out 5).trans rfl
         have hcz74_6 : wc.cell? ⟨ad, 6, none⟩ = some (.slice bt ao.length bu) := (blk_cell aa.out 6).trans rfl
         have hfz74_0 := blk_frozen aa.out 0
         have hfz74_1 := blk_frozen aa.out 1
         have hfz74_2 := blk_frozen aa.out 2
         have hfz74_3 := blk_frozen aa.out 3
         have hfz74_4 := blk_frozen aa.out 4
         have hfz74_5 := blk_frozen aa.out 5
         have hfz74_6 := blk_frozen aa.out 6
         go_upto_if 45 with (fail)
         go_cut [] (fun wc => ∃ (kq : Nat) (x371002_69 : Int), Aside0 (attr_Do.j3 kq ap aq ar au av bi ao x371000_32 x371001_56 x371002_69 t360 t363 t366 t367 = some (r1, r2, r3, r4, r5, r6, r7, r8)) ∧ Aside0 (kq ≤ kj56) ∧ Aside0 (Kd.R (Kd.int .i64) 3 wc w.heap.size (fun k_ => some k_ ≠ ((.slice bf t367.length bg) : Value).ownBlock) (.slice ba t360.length bb) t360) ∧ Aside0 (Kd.R k63 63 wc w.heap.size (fun _ => True) (.slice b0 t363.length b1) t363) ∧ Aside0 (Kd.R (Kd.int .i64) 3 wc w.heap.size (fun k_ => some k_ ≠ ((.slice ba t360.length bb) : Value).ownBlock) (.slice bf t367.length bg) t367) ∧ Aside0 (wc.heap[ak]? = some (.cells #[.int .i64 bv, .int .i64 bw, .int .i64 bx, (.slice b2 bk.length b3), (.slice b4 bl.length b5), .int .i64 bz, (.slice b6 bm.length b8)] 30 (0, 0))) ∧ Aside0 (wc.heap[ad]? = some (.cells #[.int .i64 ap, .int .i64 aq, .int .i64 ar, (.slice bn au.length bo), (.slice bp av.length bq), .bool bi, (.slice bt ao.length bu)] 37 (0, 0))) ∧ Aside0 (wc.heap[ag]? = some (.cells #[.int .i64 0, .int .i64 0, .int .i64 0, (.slice none 0 0), (.slice none 0 0), .int .i64 0, (.slice none 0 0)] 30 (0, 0))) ∧ Aside0 (wc.heap[ac]? = some (.cells #[.int .i64 x371000_32, .int .i64 x371001_56, .int .i64 x371002_69, (.slice ba t360.length bb), (.slice b0 t363.length b1), .int .i64 t366, (.slice bf t367.length bg)] 30 (0, 0))) ∧ Aside0 (Below w.heap.size w wc))
         case first =>
          have H := HC70.out
          clear HC70
          by_cases dj : ar ≥ 0
          ·rw [if_pos dj] at H
           have c75b0 : decide (0 ≤ ar) = true := decide_eq_true dj
           clear dj
           (first | rw [c75b0] | (simp only [i64_w, i32_w]; rw [c75b0]) | skip)
           have H' := Aside0.mk H
           clear H
           have hnb76 := ax.out
           have hnc76 := aw.out
           have hnb77 := ay.out
           have hnc77 := az.out
           have hnb78 := ah.out
           have hnc78 := be.out
           have hcz79_0 : wc.cell? ⟨ad, 0, none⟩ = some (.int .i64 ap) := (blk_cell aa.out 0).trans rfl
           have hcz79_1 : wc.cell? ⟨ad, 1, none⟩ = some (.int .i64 aq) := (blk_cell aa.out 1).trans rfl
           have hcz79_2 : wc.cell? ⟨ad, 2, none⟩ = some (.int .i64 ar) := (blk_cell aa.out 2).trans rfl
           have hcz79_3 : wc.cell? ⟨ad, 3, none⟩ = some (.slice bn au.length bo) := (blk_cell aa.out 3).trans rfl
           have hcz79_4 : wc.cell? ⟨ad, 4, none⟩ = some (.slice bp av.length bq) := (blk_cell aa.out 4).trans rfl
           have hcz79_5 : wc.cell? ⟨ad, 5, none⟩ = some (.bool bi) := (blk_cell aa.out 5).trans rfl
           have hcz79_6 : wc.cell? ⟨ad, 6, none⟩ = some (.slice bt ao.length bu) := (blk_cell aa.out 6).trans rfl
           have hfz79_0 := blk_frozen aa.out 0
           have hfz79_1 := blk_frozen aa.out 1
           have hfz79_2 := blk_frozen aa.out 2
           have hfz79_3 := blk_frozen aa.out 3
           have hfz79_4 := blk_frozen aa.out 4
           have hfz79_5 := blk_frozen aa.out 5
           have hfz79_6 := blk_frozen aa.out 6
           have hnb80 := br.out
           have hnc80 := aj.out
           have hnb81 := bs.out
           have hnc81 := ai.out
           have hcz82_0 : wc.cell? ⟨ac, 0, none⟩ = some (.int .i64 x371000_32) := (blk_cell ab.out 0).trans rfl
           have hcz82_1 : wc.cell? ⟨ac, 1, none⟩ = some (.int .i64 x371001_56) := (blk_cell ab.out 1).trans rfl
           have hcz82_2 : wc.cell? ⟨ac, 2, none⟩ = some (.int .i64 t359) := (blk_cell ab.out 2).trans rfl
           have hcz82_3 : wc.cell? ⟨ac, 3, none⟩ = some (.slice ba t360.length bb) := (blk_cell ab.out 3).trans rfl
           have hcz82_4 : wc.cell? ⟨ac, 4, none⟩ = some (.slice b0 t363.length b1) := (blk_cell ab.out 4).trans rfl
           have hcz82_5 : wc.cell? ⟨ac, 5, none⟩ = some (.int .i64 t366) := (blk_cell ab.out 5).trans rfl
           have hcz82_6 : wc.cell? ⟨ac, 6, none⟩ = some (.slice bf t367.length bg) := (blk_cell ab.out 6).trans rfl
           have hfz82_0 := blk_frozen ab.out 0
           have hfz82_1 := blk_frozen ab.out 1
           have hfz82_2 := blk_frozen ab.out 2
           have hfz82_3 := blk_frozen ab.out 3
           have hfz82_4 := blk_frozen ab.out 4
           have hfz82_5 := blk_frozen ab.out 5
           have hfz82_6 := blk_frozen ab.out 6
           go_wp2
           go_meet
           case rel => exact ⟨_, (ar), H', ⟨by have := HJ2.out; have := HJ32.out; have := HJ56.out; first | omega | exact Nat.le_refl _⟩, ⟨by (with_reducible repeat (first | apply Kd.R_alloc | apply Kd.R_drewN | apply Kd.R_drew)); exact Kd.R_mono (Kd.R_far (p := ⟨ac, 2, none⟩) (Kd.R_types HO_371003.out ab.out (by decide)) (fun _ hk => hk.2) (.int .i64 ar)) (fun _ hk => hk.1)⟩, ⟨by (with_reducible repeat (first | apply Kd.R_alloc | apply Kd.R_drewN | apply Kd.R_drew)); exact Kd.R_mono (Kd.R_far (p := ⟨ac, 2, none⟩) (Kd.R_types HO_371004.out ab.out (by decide)) (fun _ hk => hk.2) (.int .i64 ar)) (fun _ hk => trivial)⟩, ⟨by (with_reducible repeat (first | apply Kd.R_alloc | apply Kd.R_drewN | apply Kd.R_drew)); exact Kd.R_mono (Kd.R_far (p := ⟨ac, 2, none⟩) (Kd.R_types HO_371006.out ab.out (by decide)) (fun _ hk => hk.2) (.int .i64 ar)) (fun _ hk => hk.1)⟩, ⟨by (with_reducible repeat (first | refine blk_drewN ?_ _ | refine blk_drew ?_ | refine blk_alloc ?_ _)); refine blk_far ?_ aj.out _; (with_reducible repeat (first | refine blk_drewN ?_ _ | refine blk_drew ?_ | refine blk_alloc ?_ _)); exact ae.out⟩, ⟨by (with_reducible repeat (first | refine blk_drewN ?_ _ | refine blk_drew ?_ | refine blk_alloc ?_ _)); refine blk_far ?_ ah.out _; (with_reducible repeat (first | refine blk_drewN ?_ _ | refine blk_drew ?_ | refine blk_alloc ?_ _)); exact aa.out⟩, ⟨by (with_reducible repeat (first | refine blk_drewN ?_ _ | refine blk_drew ?_ | refine blk_alloc ?_ _)); refine blk_far ?_ ai.out _; (with_reducible repeat (first | refine blk_drewN ?_ _ | refine blk_drew ?_ | refine blk_alloc ?_ _)); exact af.out⟩, ⟨by (with_reducible repeat (first | refine blk_drewN ?_ _ | refine blk_drew ?_ | refine blk_alloc ?_ _)); refine blk_put (cs := #[.int .i64 x371000_32, .int .i64 x371001_56, .int .i64 t359, .slice ba t360.length bb, .slice b0 t363.length b1, .int .i64 t366, .slice bf t367.length bg]) ?_ 2 _ rfl; (with_reducible repeat (first | refine blk_drewN ?_ _ | refine blk_drew ?_ | refine blk_alloc ?_ _)); exact ab.out⟩, ⟨by repeat (first | (with_reducible first | exact HB.out | apply below_alloc | apply pw_below_drewN | apply below_drew1 | refine below_set ?_ al.out | refine below_set ?_ am.out | refine below_set ?_ an.out | refine below_set ?_ bj.out) | exact HB.out)⟩⟩
          ·rw [if_neg dj] at H
           have c75b0 : decide (0 ≤ ar) = false := decide_eq_false dj
           clear dj
           (first | rw [c75b0] | (simp only [i64_w, i32_w]; rw [c75b0]) | skip)
           have H' := Aside0.mk H
           clear H
           go_wp2
           go_meet
           case rel => exact ⟨_, (t359), H', ⟨by have := HJ2.out; have := HJ32.out; have := HJ56.out; first | omega | exact Nat.le_refl _⟩, ⟨by (with_reducible repeat (first | apply Kd.R_alloc | apply Kd.R_drewN | apply Kd.R_drew)); exact HO_371003.out⟩, ⟨by (with_reducible repeat (first | apply Kd.R_alloc | apply Kd.R_drewN | apply Kd.R_drew)); exact HO_371004.out⟩, ⟨by (with_reducible repeat (first | apply Kd.R_alloc | apply Kd.R_drewN | apply Kd.R_drew)); exact HO_371006.out⟩, ⟨by (with_reducible repeat (first | refine blk_drewN ?_ _ | refine blk_drew ?_ | refine blk_alloc ?_ _)); exact ae.out⟩, ⟨by (with_reducible repeat (first | refine blk_drewN ?_ _ | refine blk_drew ?_ | refine blk_alloc ?_ _)); exact aa.out⟩, ⟨by (with_reducible repeat (first | refine blk_drewN ?_ _ | refine blk_drew ?_ | refine blk_alloc ?_ _)); exact af.out⟩, ⟨by (with_reducible repeat (first | refine blk_drewN ?_ _ | refine blk_drew ?_ | refine blk_alloc ?_ _)); exact ab.out⟩, ⟨by repeat (first | (with_reducible first | exact HB.out | apply below_alloc | apply pw_below_drewN | apply below_drew1 | refine below_set ?_ al.out | refine below_set ?_ am.out | refine below_set ?_ an.out | refine below_set ?_ bj.out) | exact HB.out)⟩⟩
         case rest =>
          clear HC70
          try clear c1
          try clear c2
          try clear p2
          try clear c3
          try clear c4
          try clear c5
          try clear c6
          try clear p6
          try clear c7
          try clear c8
          try clear c10
          try clear c11
          try clear c14
          try clear c15
          try clear c17
          try clear c18
          try clear di
          try clear c22
          try clear c23
          try clear de
          try clear c25b0
          try clear c26
          try clear c27
          try clear c29
          try clear c34
          try clear c35
          try clear c37
          try clear c41
          try clear c42
          try clear c43
          try clear df
          try clear c49b0
          try clear c50
          try clear c51
          try clear c52
          try clear c54
          try clear c55
          try clear c58
          try clear c59
          try clear c60
          try clear dg
          try clear c62b0
          try clear c63
          try clear c64
          try clear p64
          try clear c65
          try clear c67
          try clear c68
          try clear c71
          try clear c72
          try clear c73
          try clear dj
          try clear c75b0
          try clear c76
          try clear c77
          try clear c78
          try clear c80
          try clear c81
          try clear hcz12_0
          try clear hcz12_1
          try clear hcz12_2
          try clear hcz12_3
          try clear hcz12_4
          try clear hcz12_5
          try clear hcz12_6
          try clear hcz15_0
          try clear hcz15_1
          try clear hcz15_2
          try clear hcz15_3
          try clear hcz15_4
          try clear hcz15_5
          try clear hcz15_6
          try clear hcz19_0
          try clear hcz19_1
          try clear hcz19_2
          try clear hcz19_3
          try clear hcz19_4
          try clear hcz19_5
          try clear hcz19_6
          try clear hcz24_0
          try clear hcz24_1
          try clear hcz24_2
          try clear hcz24_3
          try clear hcz24_4
          try clear hcz24_5
          try clear hcz24_6
          try clear hcz28_0
          try clear hcz28_1
          try clear hcz28_2
          try clear hcz28_3
          try clear hcz28_4
          try clear hcz28_5
          try clear hcz28_6
          try clear hcz30_0
          try clear hcz30_1
          try clear hcz30_2
          try clear hcz30_3
          try clear hcz30_4
          try clear hcz30_5
          try clear hcz30_6
          try clear hcz31_0
          try clear hcz31_1
          try clear hcz31_2
          try clear hcz31_3
          try clear hcz31_4
          try clear hcz31_5
          try clear hcz31_6
          try clear hcz36_0
          try clear hcz36_1
          try clear hcz36_2
          try clear hcz36_3
          try clear hcz36_4
          try clear hcz36_5
          try clear hcz36_6
          try clear hcz38_0
          try clear hcz38_1
          try clear hcz38_2
          try clear hcz38_3
          try clear hcz38_4
          try clear hcz38_5
          try clear hcz38_6
          try clear hcz44_0
          try clear hcz44_1
          try clear hcz44_2
          try clear hcz44_3
          try clear hcz44_4
          try clear hcz44_5
          try clear hcz44_6
          try clear hcz48_0
          try clear hcz48_1
          try clear hcz48_2
          try clear hcz48_3
          try clear hcz48_4
          try clear hcz48_5
          try clear hcz48_6
          try clear hcz53_0
          try clear hcz53_1
          try clear hcz53_2
          try clear hcz53_3
          try clear hcz53_4
          try clear hcz53_5
          try clear hcz53_6
          try clear hcz56_0
          try clear hcz56_1
          try clear hcz56_2
          try clear hcz56_3
          try clear hcz56_4
          try clear hcz56_5
          try clear hcz56_6
          try clear hcz61_0
          try clear hcz61_1
          try clear hcz61_2
          try clear hcz61_3
          try clear hcz61_4
          try clear hcz61_5
          try clear hcz61_6
          try clear hcz66_0
          try clear hcz66_1
          try clear hcz66_2
          try clear hcz66_3
          try clear hcz66_4
          try clear hcz66_5
          try clear hcz66_6
          try clear hcz69_0
          try clear hcz69_1
          try clear hcz69_2
          try clear hcz69_3
          try clear hcz69_4
          try clear hcz69_5
          try clear hcz69_6
          try clear hcz74_0
          try clear hcz74_1
          try clear hcz74_2
          try clear hcz74_3
          try clear hcz74_4
          try clear hcz74_5
          try clear hcz74_6
          try clear hcz79_0
          try clear hcz79_1
          try clear hcz79_2
          try clear hcz79_3
          try clear hcz79_4
          try clear hcz79_5
          try clear hcz79_6
          try clear hcz82_0
          try clear hcz82_1
          try clear hcz82_2
          try clear hcz82_3
          try clear hcz82_4
          try clear hcz82_5
          try clear hcz82_6
          try clear hfz12_0
          try clear hfz12_1
          try clear hfz12_2
          try clear hfz12_3
          try clear hfz12_4
          try clear hfz12_5
          try clear hfz12_6
          try clear hfz15_0
          try clear hfz15_1
          try clear hfz15_2
          try clear hfz15_3
          try clear hfz15_4
          try clear hfz15_5
          try clear hfz15_6
          try clear hfz19_0
          try clear hfz19_1
          try clear hfz19_2
          try clear hfz19_3
          try clear hfz19_4
          try clear hfz19_5
          try clear hfz19_6
          try clear hfz24_0
          try clear hfz24_1
          try clear hfz24_2
          try clear hfz24_3
          try clear hfz24_4
          try clear hfz24_5
          try clear hfz24_6
          try clear hfz28_0
          try clear hfz28_1
          try clear hfz28_2
          try clear hfz28_3
          try clear hfz28_4
          try clear hfz28_5
          try clear hfz28_6
          try clear hfz30_0
          try clear hfz30_1
          try clear hfz30_2
          try clear hfz30_3
          try clear hfz30_4
          try clear hfz30_5
          try clear hfz30_6
          try clear hfz31_0
          try clear hfz31_1
          try clear hfz31_2
          try clear hfz31_3
          try clear hfz31_4
          try clear hfz31_5
          try clear hfz31_6
          try clear hfz36_0
          try clear hfz36_1
          try clear hfz36_2
          try clear hfz36_3
          try clear hfz36_4
          try clear hfz36_5
          try clear hfz36_6
          try clear hfz38_0
          try clear hfz38_1
          try clear hfz38_2
          try clear hfz38_3
          try clear hfz38_4
          try clear hfz38_5
          try clear hfz38_6
          try clear hfz44_0
          try clear hfz44_1
          try clear hfz44_2
          try clear hfz44_3
          try clear hfz44_4
          try clear hfz44_5
          try clear hfz44_6
          try clear hfz48_0
          try clear hfz48_1
          try clear hfz48_2
          try clear hfz48_3
          try clear hfz48_4
          try clear hfz48_5
          try clear hfz48_6
          try clear hfz53_0
          try clear hfz53_1
          try clear hfz53_2
          try clear hfz53_3
          try clear hfz53_4
          try clear hfz53_5
          try clear hfz53_6
          try clear hfz56_0
          try clear hfz56_1
          try clear hfz56_2
          try clear hfz56_3
          try clear hfz56_4
          try clear hfz56_5
          try clear hfz56_6
          try clear hfz61_0
          try clear hfz61_1
          try clear hfz61_2
          try clear hfz61_3
          try clear hfz61_4
          try clear hfz61_5
          try clear hfz61_6
          try clear hfz66_0
          try clear hfz66_1
          try clear hfz66_2
          try clear hfz66_3
          try clear hfz66_4
          try clear hfz66_5
          try clear hfz66_6
          try clear hfz69_0
          try clear hfz69_1
          try clear hfz69_2
          try clear hfz69_3
          try clear hfz69_4
          try clear hfz69_5
          try clear hfz69_6
          try clear hfz74_0
          try clear hfz74_1
          try clear hfz74_2
          try clear hfz74_3
          try clear hfz74_4
          try clear hfz74_5
          try clear hfz74_6
          try clear hfz79_0
          try clear hfz79_1
          try clear hfz79_2
          try clear hfz79_3
          try clear hfz79_4
          try clear hfz79_5
          try clear hfz79_6
          try clear hfz82_0
          try clear hfz82_1
          try clear hfz82_2
          try clear hfz82_3
          try clear hfz82_4
          try clear hfz82_5
          try clear hfz82_6
          try clear p2
          try clear p6
          try clear p64
          obtain ⟨kq, x371002_69, HA, HJ69, HO_371003, HO_371004, HO_371006, ae, aa, af, ab, HB⟩ := hcut
          cases kq with
          | zero => exact absurd HA.out (by simp [attr_Do.j3])
          | succ kj69 =>
           have H := HA.out
           clear HA
           simp only [attr_Do.j3] at H
           have HC83 := Aside0.mk H
           clear H
           have hnb84 := ax.out
           have hnc84 := aw.out
           have hnb85 := ay.out
           have hnc85 := az.out
           have hnb86 := ah.out
           have hnc86 := be.out
           have hcz87_0 : wc.cell? ⟨ad, 0, none⟩ = some (.int .i64 ap) := (blk_cell aa.out 0).trans rfl
           have hcz87_1 : wc.cell? ⟨ad, 1, none⟩ = some (.int .i64 aq) := (blk_cell aa.out 1).trans rfl
           have hcz87_2 : wc.cell? ⟨ad, 2, none⟩ = some (.int .i64 ar) := (blk_cell aa.out 2).trans rfl
           have hcz87_3 : wc.cell? ⟨ad, 3, none⟩ = some (.slice bn au.length bo) := (blk_cell aa.out 3).trans rfl
           have hcz87_4 : wc.cell? ⟨ad, 4, none⟩ = some (.slice bp av.length bq) := (blk_cell aa.out 4).trans rfl
           have hcz87_5 : wc.cell? ⟨ad, 5, none⟩ = some (.bool bi) := (blk_cell aa.out 5).trans rfl
           have hcz87_6 : wc.cell? ⟨ad, 6, none⟩ = some (.slice bt ao.length bu) := (blk_cell aa.out 6).trans rfl
           have hfz87_0 := blk_frozen aa.out 0
           have hfz87_1 := blk_frozen aa.out 1
           have hfz87_2 := blk_frozen aa.out 2
           have hfz87_3 := blk_frozen aa.out 3
           have hfz87_4 := blk_frozen aa.out 4
           have hfz87_5 := blk_frozen aa.out 5
           have hfz87_6 := blk_frozen aa.out 6
           go_upto_if 50 with (fail)
           go_cut [] (fun wc => ∃ (kq : Nat) (x371004_82 : List (S63)) (u371004 : Value), Aside0 (attr_Do.j4 kq ap aq ar au av bi ao x371000_32 x371001_56 x371002_69 t360 x371004_82 t366 t367 = some (r1, r2, r3, r4, r5, r6, r7, r8)) ∧ Aside0 (kq ≤ kj69) ∧ Aside0 (Kd.R (Kd.int .i64) 3 wc w.heap.size (fun k_ => some k_ ≠ ((.slice bf t367.length bg) : Value).ownBlock) (.slice ba t360.length bb) t360) ∧ Aside0 (Kd.R k63 63 wc w.heap.size (fun _ => True) u371004 x371004_82) ∧ Aside0 (Kd.R (Kd.int .i64) 3 wc w.heap.size (fun k_ => some k_ ≠ ((.slice ba t360.length bb) : Value).ownBlock) (.slice bf t367.length bg) t367) ∧ Aside0 (wc.heap[ak]? = some (.cells #[.int .i64 bv, .int .i64 bw, .int .i64 bx, (.slice b2 bk.length b3), (.slice b4 bl.length b5), .int .i64 bz, (.slice b6 bm.length b8)] 30 (0, 0))) ∧ Aside0 (wc.heap[ad]? = some (.cells #[.int .i64 ap, .int .i64 aq, .int .i64 ar, (.slice bn au.length bo), (.slice bp av.length bq), .bool bi, (.slice bt ao.length bu)] 37 (0, 0))) ∧ Aside0 (wc.heap[ag]? = some (.cells #[.int .i64 0, .int .i64 0, .int .i64 0, (.slice none 0 0), (.slice none 0 0), .int .i64 0, (.slice none 0 0)] 30 (0, 0))) ∧ Aside0 (wc.heap[ac]? = some (.cells #[.int .i64 x371000_32, .int .i64 x371001_56, .int .i64 x371002_69, (.slice ba t360.length bb), u371004, .int .i64 t366, (.slice bf t367.length bg)] 30 (0, 0))) ∧ Aside0 (Below w.heap.size w wc))
           case first =>
            have H := HC83.out
            clear HC83
            by_cases c88 : bi = true
            ·subst c88
             have H1 : (attr_Do.j4 kj69 ap aq ar au av true ao x371000_32 x371001_56 x371002_69 t360 ([] : List (S63)) t366 t367) = some (r1, r2, r3, r4, r5, r6, r7, r8) := by rw [if_pos rfl] at H; exact H
             clear H
             have H := H1
             clear H1
             have H' := Aside0.mk H
             clear H
             have hnb89 := br.out
             have hnc89 := aj.out
             have hnb90 := be.out
             have hnc90 := ah.out
             have hnb91 := bs.out
             have hnc91 := ai.out
             have hcz92_0 : wc.cell? ⟨ac, 0, none⟩ = some (.int .i64 x371000_32) := (blk_cell ab.out 0).trans rfl
             have hcz92_1 : wc.cell? ⟨ac, 1, none⟩ = some (.int .i64 x371001_56) := (blk_cell ab.out 1).trans rfl
             have hcz92_2 : wc.cell? ⟨ac, 2, none⟩ = some (.int .i64 x371002_69) := (blk_cell ab.out 2).trans rfl
             have hcz92_3 : wc.cell? ⟨ac, 3, none⟩ = some (.slice ba t360.length bb) := (blk_cell ab.out 3).trans rfl
             have hcz92_4 : wc.cell? ⟨ac, 4, none⟩ = some (.slice b0 t363.length b1) := (blk_cell ab.out 4).trans rfl
             have hcz92_5 : wc.cell? ⟨ac, 5, none⟩ = some (.int .i64 t366) := (blk_cell ab.out 5).trans rfl
             have hcz92_6 : wc.cell? ⟨ac, 6, none⟩ = some (.slice bf t367.length bg) := (blk_cell ab.out 6).trans rfl
             have hfz92_0 := blk_frozen ab.out 0
             have hfz92_1 := blk_frozen ab.out 1
             have hfz92_2 := blk_frozen ab.out 2
             have hfz92_3 := blk_frozen ab.out 3
             have hfz92_4 := blk_frozen ab.out 4
             have hfz92_5 := blk_frozen ab.out 5
             have hfz92_6 := blk_frozen ab.out 6
             go_wp2
             go_meet
             case rel => exact ⟨_, (([] : List (S63))), (.slice none 0 0), H', ⟨by have := HJ2.out; have := HJ32.out; have := HJ56.out; have := HJ69.out; first | omega | exact Nat.le_refl _⟩, ⟨by (with_reducible repeat (first | apply Kd.R_alloc | apply Kd.R_drewN | apply Kd.R_drew)); exact Kd.R_mono (Kd.R_far (p := ⟨ac, 4, none⟩) (Kd.R_types HO_371003.out ab.out (by decide)) (fun _ hk => hk.2) (.slice none 0 0)) (fun _ hk => hk.1)⟩, ⟨by first | exact Kd.R_nil _ _ _ _ _ | exact Kd.N_nil _ _ _ _ _ | exact Kd.V_nil _ _ _ _ _ | exact Kd.Q_nil _ _ _ _ _ | exact Kd.S_nil _ _ _ _ _⟩, ⟨by (with_reducible repeat (first | apply Kd.R_alloc | apply Kd.R_drewN | apply Kd.R_drew)); exact Kd.R_mono (Kd.R_far (p := ⟨ac, 4, none⟩) (Kd.R_types HO_371006.out ab.out (by decide)) (fun _ hk => hk.2) (.slice none 0 0)) (fun _ hk => hk.1)⟩, ⟨by (with_reducible repeat (first | refine blk_drewN ?_ _ | refine blk_drew ?_ | refine blk_alloc ?_ _)); refine blk_far ?_ aj.out _; (with_reducible repeat (first | refine blk_drewN ?_ _ | refine blk_drew ?_ | refine blk_alloc ?_ _)); exact ae.out⟩, ⟨by (with_reducible repeat (first | refine blk_drewN ?_ _ | refine blk_drew ?_ | refine blk_alloc ?_ _)); refine blk_far ?_ ah.out _; (with_reducible repeat (first | refine blk_drewN ?_ _ | refine blk_drew ?_ | refine blk_alloc ?_ _)); exact aa.out⟩, ⟨by (with_reducible repeat (first | refine blk_drewN ?_ _ | refine blk_drew ?_ | refine blk_alloc ?_ _)); refine blk_far ?_ ai.out _; (with_reducible repeat (first | refine blk_drewN ?_ _ | refine blk_drew ?_ | refine blk_alloc ?_ _)); exact af.out⟩, ⟨by (with_reducible repeat (first | refine blk_drewN ?_ _ | refine blk_drew ?_ | refine blk_alloc ?_ _)); refine blk_put (cs := #[.int .i64 x371000_32, .int .i64 x371001_56, .int .i64 x371002_69, .slice ba t360.length bb, .slice b0 t363.length b1, .int .i64 t366, .slice bf t367.length bg]) ?_ 4 _ rfl; (with_reducible repeat (first | refine blk_drewN ?_ _ | refine blk_drew ?_ | refine blk_alloc ?_ _)); exact ab.out⟩, ⟨by repeat (first | (with_reducible first | exact HB.out | apply below_alloc | apply pw_below_drewN | apply below_drew1 | refine below_set ?_ al.out | refine below_set ?_ am.out | refine below_set ?_ an.out | refine below_set ?_ bj.out) | exact HB.out)⟩⟩
            ·replace c88 := Bool.eq_false_iff.mpr c88
             subst c88
             have H1 : (attr_Do.j4 kj69 ap aq ar au av false ao x371000_32 x371001_56 x371002_69 t360 t363 t366 t367) = some (r1, r2, r3, r4, r5, r6, r7, r8) := by rw [if_neg (show ¬ (false = true) by decide)] at H; exact H
             clear H
             have H := H1
             clear H1
             have H' := Aside0.mk H
             clear H
             go_wp2
             go_meet
             case rel => exact ⟨_, (t363), (.slice b0 t363.length b1), H', ⟨by have := HJ2.out; have := HJ32.out; have := HJ56.out; have := HJ69.out; first | omega | exact Nat.le_refl _⟩, ⟨by (with_reducible repeat (first | apply Kd.R_alloc | apply Kd.R_drewN | apply Kd.R_drew)); exact HO_371003.out⟩, ⟨by (with_reducible repeat (first | apply Kd.R_alloc | apply Kd.R_drewN | apply Kd.R_drew)); exact HO_371004.out⟩, ⟨by (with_reducible repeat (first | apply Kd.R_alloc | apply Kd.R_drewN | apply Kd.R_drew)); exact HO_371006.out⟩, ⟨by (with_reducible repeat (first | refine blk_drewN ?_ _ | refine blk_drew ?_ | refine blk_alloc ?_ _)); exact ae.out⟩, ⟨by (with_reducible repeat (first | refine blk_drewN ?_ _ | refine blk_drew ?_ | refine blk_alloc ?_ _)); exact aa.out⟩, ⟨by (with_reducible repeat (first | refine blk_drewN ?_ _ | refine blk_drew ?_ | refine blk_alloc ?_ _)); exact af.out⟩, ⟨by (with_reducible repeat (first | refine blk_drewN ?_ _ | refine blk_drew ?_ | refine blk_alloc ?_ _)); exact ab.out⟩, ⟨by repeat (first | (with_reducible first | exact HB.out | apply below_alloc | apply pw_below_drewN | apply below_drew1 | refine below_set ?_ al.out | refine below_set ?_ am.out | refine below_set ?_ an.out | refine below_set ?_ bj.out) | exact HB.out)⟩⟩
           case rest =>
            clear HC83
            try clear c1
            try clear c2
            try clear p2
            try clear c3
            try clear c4
            try clear c5
            try clear c6
            try clear p6
            try clear c7
            try clear c8
            try clear c9
            try clear c10
            try clear c11
            try clear c14
            try clear c15
            try clear c17
            try clear c18
            try clear di
            try clear c22
            try clear c23
            try clear de
            try clear c25b0
            try clear c26
            try clear c27
            try clear c29
            try clear c34
            try clear c35
            try clear c37
            try clear c41
            try clear c42
            try clear c43
            try clear df
            try clear c49b0
            try clear c50
            try clear c51
            try clear c52
            try clear c54
            try clear c55
            try clear c58
            try clear c59
            try clear c60
            try clear dg
            try clear c62b0
            try clear c63
            try clear c64
            try clear p64
            try clear c65
            try clear c67
            try clear c68
            try clear c71
            try clear c72
            try clear c73
            try clear dj
            try clear c75b0
            try clear c76
            try clear c77
            try clear c78
            try clear c80
            try clear c81
            try clear c84
            try clear c85
            try clear c86
            try clear c88
            try clear c89
            try clear c90
            try clear c91
            try clear hcz12_0
            try clear hcz12_1
            try clear hcz12_2
            try clear hcz12_3
            try clear hcz12_4
            try clear hcz12_5
            try clear hcz12_6
            try clear hcz15_0
            try clear hcz15_1
            try clear hcz15_2
            try clear hcz15_3
            try clear hcz15_4
            try clear hcz15_5
            try clear hcz15_6
            try clear hcz19_0
            try clear hcz19_1
            try clear hcz19_2
            try clear hcz19_3
            try clear hcz19_4
            try clear hcz19_5
            try clear hcz19_6
            try clear hcz24_0
            try clear hcz24_1
            try clear hcz24_2
            try clear hcz24_3
            try clear hcz24_4
            try clear hcz24_5
            try clear hcz24_6
            try clear hcz28_0
            try clear hcz28_1
            try clear hcz28_2
            try clear hcz28_3
            try clear hcz28_4
            try clear hcz28_5
            try clear hcz28_6
            try clear hcz30_0
            try clear hcz30_1
            try clear hcz30_2
            try clear hcz30_3
            try clear hcz30_4
            try clear hcz30_5
            try clear hcz30_6
            try clear hcz31_0
            try clear hcz31_1
            try clear hcz31_2
            try clear hcz31_3
            try clear hcz31_4
            try clear hcz31_5
            try clear hcz31_6
            try clear hcz36_0
            try clear hcz36_1
            try clear hcz36_2
            try clear hcz36_3
            try clear hcz36_4
            try clear hcz36_5
            try clear hcz36_6
            try clear hcz38_0
            try clear hcz38_1
            try clear hcz38_2
            try clear hcz38_3
            try clear hcz38_4
            try clear hcz38_5
            try clear hcz38_6
            try clear hcz44_0
            try clear hcz44_1
            try clear hcz44_2
            try clear hcz44_3
            try clear hcz44_4
            try clear hcz44_5
            try clear hcz44_6
            try clear hcz48_0
            try clear hcz48_1
            try clear hcz48_2
            try clear hcz48_3
            try clear hcz48_4
            try clear hcz48_5
            try clear hcz48_6
            try clear hcz53_0
            try clear hcz53_1
            try clear hcz53_2
            try clear hcz53_3
            try clear hcz53_4
            try clear hcz53_5
            try clear hcz53_6
            try clear hcz56_0
            try clear hcz56_1
            try clear hcz56_2
            try clear hcz56_3
            try clear hcz56_4
            try clear hcz56_5
            try clear hcz56_6
            try clear hcz61_0
            try clear hcz61_1
            try clear hcz61_2
            try clear hcz61_3
            try clear hcz61_4
            try clear hcz61_5
            try clear hcz61_6
            try clear hcz66_0
            try clear hcz66_1
            try clear hcz66_2
            try clear hcz66_3
            try clear hcz66_4
            try clear hcz66_5
            try clear hcz66_6
            try clear hcz69_0
            try clear hcz69_1
            try clear hcz69_2
            try clear hcz69_3
            try clear hcz69_4
            try clear hcz69_5
            try clear hcz69_6
            try clear hcz74_0
            try clear hcz74_1
            try clear hcz74_2
            try clear hcz74_3
            try clear hcz74_4
            try clear hcz74_5
            try clear hcz74_6
            try clear hcz79_0
            try clear hcz79_1
            try clear hcz79_2
            try clear hcz79_3
            try clear hcz79_4
            try clear hcz79_5
            try clear hcz79_6
            try clear hcz82_0
            try clear hcz82_1
            try clear hcz82_2
            try clear hcz82_3
            try clear hcz82_4
            try clear hcz82_5
            try clear hcz82_6
            try clear hcz87_0
            try clear hcz87_1
            try clear hcz87_2
            try clear hcz87_3
            try clear hcz87_4
            try clear hcz87_5
            try clear hcz87_6
            try clear hcz92_0
            try clear hcz92_1
            try clear hcz92_2
            try clear hcz92_3
            try clear hcz92_4
            try clear hcz92_5
            try clear hcz92_6
            try clear hfz12_0
            try clear hfz12_1
            try clear hfz12_2
            try clear hfz12_3
            try clear hfz12_4
            try clear hfz12_5
            try clear hfz12_6
            try clear hfz15_0
            try clear hfz15_1
            try clear hfz15_2
            try clear hfz15_3
            try clear hfz15_4
            try clear hfz15_5
            try clear hfz15_6
            try clear hfz19_0
            try clear hfz19_1
            try clear hfz19_2
            try clear hfz19_3
            try clear hfz19_4
            try clear hfz19_5
            try clear hfz19_6
            try clear hfz24_0
            try clear hfz24_1
            try clear hfz24_2
            try clear hfz24_3
            try clear hfz24_4
            try clear hfz24_5
            try clear hfz24_6
            try clear hfz28_0
            try clear hfz28_1
            try clear hfz28_2
            try clear hfz28_3
            try clear hfz28_4
            try clear hfz28_5
            try clear hfz28_6
            try clear hfz30_0
            try clear hfz30_1
            try clear hfz30_2
            try clear hfz30_3
            try clear hfz30_4
            try clear hfz30_5
            try clear hfz30_6
            try clear hfz31_0
            try clear hfz31_1
            try clear hfz31_2
            try clear hfz31_3
            try clear hfz31_4
            try clear hfz31_5
            try clear hfz31_6
            try clear hfz36_0
            try clear hfz36_1
            try clear hfz36_2
            try clear hfz36_3
            try clear hfz36_4
            try clear hfz36_5
            try clear hfz36_6
            try clear hfz38_0
            try clear hfz38_1
            try clear hfz38_2
            try clear hfz38_3
            try clear hfz38_4
            try clear hfz38_5
            try clear hfz38_6
            try clear hfz44_0
            try clear hfz44_1
            try clear hfz44_2
            try clear hfz44_3
            try clear hfz44_4
            try clear hfz44_5
            try clear hfz44_6
            try clear hfz48_0
            try clear hfz48_1
            try clear hfz48_2
            try clear hfz48_3
            try clear hfz48_4
            try clear hfz48_5
            try clear hfz48_6
            try clear hfz53_0
            try clear hfz53_1
            try clear hfz53_2
            try clear hfz53_3
            try clear hfz53_4
            try clear hfz53_5
            try clear hfz53_6
            try clear hfz56_0
            try clear hfz56_1
            try clear hfz56_2
            try clear hfz56_3
            try clear hfz56_4
            try clear hfz56_5
            try clear hfz56_6
            try clear hfz61_0
            try clear hfz61_1
            try clear hfz61_2
            try clear hfz61_3
            try clear hfz61_4
            try clear hfz61_5
            try clear hfz61_6
            try clear hfz66_0
            try clear hfz66_1
            try clear hfz66_2
            try clear hfz66_3
            try clear hfz66_4
            try clear hfz66_5
            try clear hfz66_6
            try clear hfz69_0
            try clear hfz69_1
            try clear hfz69_2
            try clear hfz69_3
            try clear hfz69_4
            try clear hfz69_5
            try clear hfz69_6
            try clear hfz74_0
            try clear hfz74_1
            try clear hfz74_2
            try clear hfz74_3
            try clear hfz74_4
            try clear hfz74_5
            try clear hfz74_6
            try clear hfz79_0
            try clear hfz79_1
            try clear hfz79_2
            try clear hfz79_3
            try clear hfz79_4
            try clear hfz79_5
            try clear hfz79_6
            try clear hfz82_0
            try clear hfz82_1
            try clear hfz82_2
            try clear hfz82_3
            try clear hfz82_4
            try clear hfz82_5
            try clear hfz82_6
            try clear hfz87_0
            try clear hfz87_1
            try clear hfz87_2
            try clear hfz87_3
            try clear hfz87_4
            try clear hfz87_5
            try clear hfz87_6
            try clear hfz92_0
            try clear hfz92_1
            try clear hfz92_2
            try clear hfz92_3
            try clear hfz92_4
            try clear hfz92_5
            try clear hfz92_6
            try clear p2
            try clear p6
            try clear p64
            obtain ⟨kq, x371004_82, u371004, HA, HJ82, HO_371003, HO_371004, HO_371006, ae, aa, af, ab, HB⟩ := hcut
            cases kq with
            | zero => exact absurd HA.out (by simp [attr_Do.j4])
            | succ kj82 =>
             have H := HA.out
             clear HA
             simp only [attr_Do.j4] at H
             replace H := Option.bind_eq_some_iff.mp H
             obtain ⟨⟨t371, t372⟩, A930, H⟩ := H
             (try dsimp only at H)
             have A93 := Aside0.mk A930
             clear A930
             replace H := Option.bind_eq_some_iff.mp H
             obtain ⟨⟨t375, t376⟩, A940, H⟩ := H
             (try dsimp only at H)
             have A94 := Aside0.mk A940
             clear A940
             by_cases c95 : t376 = 0
             ·rw [if_pos c95] at H
              have c95b0 : (t376 == 0) = true := beq_iff_eq.mpr c95
              have c95b1 : (t376 != 0) = false := bne_eq_false_iff_eq.mpr c95
              clear c95
              replace H := Option.bind_eq_some_iff.mp H
              obtain ⟨t379, A960, H⟩ := H
              (try dsimp only at H)
              have A96 := Aside0.mk A960
              clear A960
              by_cases c97 : t379.length + t360.length < 17592186044416
              ·rw [if_pos c97] at H
               have LMc97 := Aside0.mk c97
               clear c97
               obtain ⟨dd, hy382⟩ : ∃ y_ : List Int, y_ = (t379 ++ t360) := ⟨_, rfl⟩
               replace H : (some (x371000_32, x371001_56, x371002_69, dd, t375, t366, t367, 0)) = some (r1, r2, r3, r4, r5, r6, r7, r8) := by first | (rw [hy382]; with_reducible exact H) | (have H2_ := (Option.bind_some _ _).symm.trans H; rw [hy382]; with_reducible exact H2_) | (have H2_ := (Option.bind_some _ _).symm.trans H; with_reducible exact H2_) | with_reducible exact H | (rw [hy382]; exact H) | exact H
               have Ny382 := Aside0.mk hy382
               clear hy382
               simp only [Option.some.injEq, Prod.mk.injEq] at H
               obtain ⟨rfl, rfl, rfl, rfl, rfl, rfl, rfl, rfl⟩ := H
               have hnb98 := br.out
               have hnc98 := aj.out
               have hnb99 := be.out
               have hnc99 := ah.out
               have hnb100 := bs.out
               have hnc100 := ai.out
               have hcz101_0 : wc.cell? ⟨ac, 0, none⟩ = some (.int .i64 x371000_32) := (blk_cell ab.out 0).trans rfl
               have hcz101_1 : wc.cell? ⟨ac, 1, none⟩ = some (.int .i64 x371001_56) := (blk_cell ab.out 1).trans rfl
               have hcz101_2 : wc.cell? ⟨ac, 2, none⟩ = some (.int .i64 x371002_69) := (blk_cell ab.out 2).trans rfl
               have hcz101_3 : wc.cell? ⟨ac, 3, none⟩ = some (.slice ba t360.length bb) := (blk_cell ab.out 3).trans rfl
               have hcz101_4 : wc.cell? ⟨ac, 4, none⟩ = some (u371004) := (blk_cell ab.out 4).trans rfl
               have hcz101_5 : wc.cell? ⟨ac, 5, none⟩ = some (.int .i64 t366) := (blk_cell ab.out 5).trans rfl
               have hcz101_6 : wc.cell? ⟨ac, 6, none⟩ = some (.slice bf t367.length bg) := (blk_cell ab.out 6).trans rfl
               have hfz101_0 := blk_frozen ab.out 0
               have hfz101_1 := blk_frozen ab.out 1
               have hfz101_2 := blk_frozen ab.out 2
               have hfz101_3 := blk_frozen ab.out 3
               have hfz101_4 := blk_frozen ab.out 4
               have hfz101_5 := blk_frozen ab.out 5
               have hfz101_6 := blk_frozen ab.out 6
               have hnb102 := ax.out
               have hnc102 := aw.out
               have hnb103 := ay.out
               have hnc103 := az.out
               have hcz104_0 : wc.cell? ⟨ad, 0, none⟩ = some (.int .i64 ap) := (blk_cell aa.out 0).trans rfl
               have hcz104_1 : wc.cell? ⟨ad, 1, none⟩ = some (.int .i64 aq) := (blk_cell aa.out 1).trans rfl
               have hcz104_2 : wc.cell? ⟨ad, 2, none⟩ = some (.int .i64 ar) := (blk_cell aa.out 2).trans rfl
               have hcz104_3 : wc.cell? ⟨ad, 3, none⟩ = some (.slice bn au.length bo) := (blk_cell aa.out 3).trans rfl
               have hcz104_4 : wc.cell? ⟨ad, 4, none⟩ = some (.slice bp av.length bq) := (blk_cell aa.out 4).trans rfl
               have hcz104_5 : wc.cell? ⟨ad, 5, none⟩ = some (.bool bi) := (blk_cell aa.out 5).trans rfl
               have hcz104_6 : wc.cell? ⟨ad, 6, none⟩ = some (.slice bt ao.length bu) := (blk_cell aa.out 6).trans rfl
               have hfz104_0 := blk_frozen aa.out 0
               have hfz104_1 := blk_frozen aa.out 1
               have hfz104_2 := blk_frozen aa.out 2
               have hfz104_3 := blk_frozen aa.out 3
               have hfz104_4 := blk_frozen aa.out 4
               have hfz104_5 := blk_frozen aa.out 5
               have hfz104_6 := blk_frozen aa.out 6
               obtain ⟨Ao105, co105, eo105⟩ := Kd.R_slice HO_371004.out
               subst eo105
               try go_wp2_with (first | ((with_reducible refine gate_callee (f := 50) rfl ?_); refine goesL_ (some 57) rfl rfl Try.func50 (by kernel_rfl) rfl #[.slice Ao105 x371004_82.length co105, .slice bp av.length bq] rfl (by (try simp only [List.map_toArray, List.map_cons, List.map_nil]); first | done | rfl) ?_; (with_reducible refine (comm_Del.calls kj82 _ _ x371004_82 _ _ av t371 t372 _ ?side1 ?side2 ?side3 ?side4 A93.out).mono ?_); (case side1 | side3 => repeat (first | exact (Kd.R_reads' HO_371004.out).2.2 | exact (Kd.C_below HR1_4.out HB.out) | (with_reducible refine Kd.C_alloc ?_ _) | (with_reducible refine Kd.C_drewN ?_ _) | (with_reducible refine Kd.C_drew ?_))); (case side2 | side4 => first | exact (Kd.R_reads' HO_371004.out).2.1 | exact HC1_4.out); rintro e w106 ⟨v373, rfl, ho0, hb⟩; refine ⟨_, rfl, ?_⟩; have n0_ := Aside0.mk (Kd.R_below (by (with_reducible repeat (first | apply Kd.R_alloc | apply Kd.R_drewN | apply Kd.R_drew)); exact HO_371003.out) hb); have n1_ := Aside0.mk (Kd.R_elder' (by (with_reducible repeat (first | apply Kd.R_alloc | apply Kd.R_drewN | apply Kd.R_drew)); exact HO_371004.out) (Kd.R_base ho0) hb); have n2_ := Aside0.mk (Kd.R_below (by (with_reducible repeat (first | apply Kd.R_alloc | apply Kd.R_drewN | apply Kd.R_drew)); exact HO_371006.out) hb); have n3_ := Aside0.mk (Kd.R_lower (Kd.R_new' ho0 (Kd.R_lt (by (with_reducible repeat (first | apply Kd.R_alloc | apply Kd.R_drewN | apply Kd.R_drew)); exact HO_371004.out))) (below_size (by repeat (first | (with_reducible first | exact HB.out | apply below_alloc | apply pw_below_drewN | apply below_drew1 | refine below_set ?_ al.out | refine below_set ?_ am.out | refine below_set ?_ an.out | refine below_set ?_ bj.out) | exact HB.out)))); have n4_ := Aside0.mk (blk_below (g := ak) (by (with_reducible repeat (first | refine blk_drewN ?_ _ | refine blk_drew ?_ | refine blk_alloc ?_ _)); exact ae.out) hb); have n5_ := Aside0.mk (blk_below (g := ad) (by (with_reducible repeat (first | refine blk_drewN ?_ _ | refine blk_drew ?_ | refine blk_alloc ?_ _)); exact aa.out) hb); have n6_ := Aside0.mk (blk_below (g := ag) (by (with_reducible repeat (first | refine blk_drewN ?_ _ | refine blk_drew ?_ | refine blk_alloc ?_ _)); exact af.out) hb); have n7_ := Aside0.mk (blk_below (g := ac) (by (with_reducible repeat (first | refine blk_drewN ?_ _ | refine blk_drew ?_ | refine blk_alloc ?_ _)); exact ab.out) hb); have n8_ := Aside0.mk (below_step (by repeat (first | (with_reducible first | exact HB.out | apply below_alloc | apply pw_below_drewN | apply below_drew1 | refine below_set ?_ al.out | refine below_set ?_ am.out | refine below_set ?_ an.out | refine below_set ?_ bj.out) | exact HB.out)) hb); clear HO_371003; clear HO_371004; clear HO_371006; clear ae; clear aa; clear af; clear ab; clear HB; have HO_371003 := n0_; have HO_371004 := n1_; have HO_371006 := n2_; have bh := n3_; have ae := n4_; have aa := n5_; have af := n6_; have ab := n7_; have HB := n8_; clear n0_ n1_ n2_ n3_ n4_ n5_ n6_ n7_ n8_; (try clear hb); (try clear dh); (try clear hk); (try clear hi); (try clear ho0); have hcz107_0 : w106.cell? ⟨ad, 0, none⟩ = some (.int .i64 ap) := (blk_cell aa.out 0).trans rfl; have hcz107_1 : w106.cell? ⟨ad, 1, none⟩ = some (.int .i64 aq) := (blk_cell aa.out 1).trans rfl; have hcz107_2 : w106.cell? ⟨ad, 2, none⟩ = some (.int .i64 ar) := (blk_cell aa.out 2).trans rfl; have hcz107_3 : w106.cell? ⟨ad, 3, none⟩ = some (.slice bn au.length bo) := (blk_cell aa.out 3).trans rfl; have hcz107_4 : w106.cell? ⟨ad, 4, none⟩ = some (.slice bp av.length bq) := (blk_cell aa.out 4).trans rfl; have hcz107_5 : w106.cell? ⟨ad, 5, none⟩ = some (.bool bi) := (blk_cell aa.out 5).trans rfl; have hcz107_6 : w106.cell? ⟨ad, 6, none⟩ = some (.slice bt ao.length bu) := (blk_cell aa.out 6).trans rfl; have hfz107_0 := blk_frozen aa.out 0; have hfz107_1 := blk_frozen aa.out 1; have hfz107_2 := blk_frozen aa.out 2; have hfz107_3 := blk_frozen aa.out 3; have hfz107_4 := blk_frozen aa.out 4; have hfz107_5 := blk_frozen aa.out 5; have hfz107_6 := blk_frozen aa.out 6; obtain ⟨Ao108, co108, eo108⟩ := Kd.R_slice bh.out; subst eo108) | ((with_reducible refine gate_callee (f := 51) rfl ?_); refine goesL_ (some 64) rfl rfl Try.func51 (by kernel_rfl) rfl #[.slice Ao108 t371.length co108, .slice bn au.length bo] rfl (by (try simp only [List.map_toArray, List.map_cons, List.map_nil]); first | done | rfl) ?_; (with_reducible refine (comm_Add.calls kj82 _ _ t371 _ _ au t375 t376 _ ?side1 ?side2 ?side3 ?side4 A94.out).mono ?_); (case side1 | side3 => repeat (first | exact (Kd.R_reads' bh.out).2.2 | exact (Kd.C_below HR1_3.out HB.out) | (with_reducible refine Kd.C_alloc ?_ _) | (with_reducible refine Kd.C_drewN ?_ _) | (with_reducible refine Kd.C_drew ?_))); (case side2 | side4 => first | exact (Kd.R_reads' bh.out).2.1 | exact HC1_3.out); rintro e w109 ⟨v377, rfl, ho0, hb⟩; refine ⟨_, rfl, ?_⟩; have n0_ := Aside0.mk (Kd.R_below (by (with_reducible repeat (first | apply Kd.R_alloc | apply Kd.R_drewN | apply Kd.R_drew)); exact HO_371003.out) hb); have n1_ := Aside0.mk (Kd.R_elder' (by (with_reducible repeat (first | apply Kd.R_alloc | apply Kd.R_drewN | apply Kd.R_drew)); exact HO_371004.out) (Kd.R_base ho0) hb); have n2_ := Aside0.mk (Kd.R_below (by (with_reducible repeat (first | apply Kd.R_alloc | apply Kd.R_drewN | apply Kd.R_drew)); exact HO_371006.out) hb); have n3_ := Aside0.mk (Kd.R_elder' (by (with_reducible repeat (first | apply Kd.R_alloc | apply Kd.R_drewN | apply Kd.R_drew)); exact bh.out) (Kd.R_base ho0) hb); have n4_ := Aside0.mk (Kd.R_lower (Kd.R_new' (Kd.R_new' ho0 (Kd.R_lt (by (with_reducible repeat (first | apply Kd.R_alloc | apply Kd.R_drewN | apply Kd.R_drew)); exact HO_371004.out))) (Kd.R_lt (by (with_reducible repeat (first | apply Kd.R_alloc | apply Kd.R_drewN | apply Kd.R_drew)); exact bh.out))) (below_size (by repeat (first | (with_reducible first | exact HB.out | apply below_alloc | apply pw_below_drewN | apply below_drew1 | refine below_set ?_ al.out | refine below_set ?_ am.out | refine below_set ?_ an.out | refine below_set ?_ bj.out) | exact HB.out)))); have n5_ := Aside0.mk (blk_below (g := ak) (by (with_reducible repeat (first | refine blk_drewN ?_ _ | refine blk_drew ?_ | refine blk_alloc ?_ _)); exact ae.out) hb); have n6_ := Aside0.mk (blk_below (g := ad) (by (with_reducible repeat (first | refine blk_drewN ?_ _ | refine blk_drew ?_ | refine blk_alloc ?_ _)); exact aa.out) hb); have n7_ := Aside0.mk (blk_below (g := ag) (by (with_reducible repeat (first | refine blk_drewN ?_ _ | refine blk_drew ?_ | refine blk_alloc ?_ _)); exact af.out) hb); have n8_ := Aside0.mk (blk_below (g := ac) (by (with_reducible repeat (first | refine blk_drewN ?_ _ | refine blk_drew ?_ | refine blk_alloc ?_ _)); exact ab.out) hb); have n9_ := Aside0.mk (below_step (by repeat (first | (with_reducible first | exact HB.out | apply below_alloc | apply pw_below_drewN | apply below_drew1 | refine below_set ?_ al.out | refine below_set ?_ am.out | refine below_set ?_ an.out | refine below_set ?_ bj.out) | exact HB.out)) hb); clear HO_371003; clear HO_371004; clear HO_371006; clear bh; clear ae; clear aa; clear af; clear ab; clear HB; have HO_371003 := n0_; have HO_371004 := n1_; have HO_371006 := n2_; have bh := n3_; have b9 := n4_; have ae := n5_; have aa := n6_; have af := n7_; have ab := n8_; have HB := n9_; clear n0_ n1_ n2_ n3_ n4_ n5_ n6_ n7_ n8_ n9_; (try clear hb); (try clear dh); (try clear hk); (try clear hi); (try clear ho0); obtain ⟨bc, bd, eo110⟩ := Kd.R_slice b9.out; subst eo110; have hcz111_0 : w109.cell? ⟨ac, 0, none⟩ = some (.int .i64 x371000_32) := (blk_cell ab.out 0).trans rfl; have hcz111_1 : w109.cell? ⟨ac, 1, none⟩ = some (.int .i64 x371001_56) := (blk_cell ab.out 1).trans rfl; have hcz111_2 : w109.cell? ⟨ac, 2, none⟩ = some (.int .i64 x371002_69) := (blk_cell ab.out 2).trans rfl; have hcz111_3 : w109.cell? ⟨ac, 3, none⟩ = some (.slice ba t360.length bb) := (blk_cell ab.out 3).trans rfl; have hcz111_4 : w109.cell? ⟨ac, 4, none⟩ = some (.slice Ao105 x371004_82.length co105) := (blk_cell ab.out 4).trans rfl; have hcz111_5 : w109.cell? ⟨ac, 5, none⟩ = some (.int .i64 t366) := (blk_cell ab.out 5).trans rfl; have hcz111_6 : w109.cell? ⟨ac, 6, none⟩ = some (.slice bf t367.length bg) := (blk_cell ab.out 6).trans rfl; have hfz111_0 := blk_frozen ab.out 0; have hfz111_1 := blk_frozen ab.out 1; have hfz111_2 := blk_frozen ab.out 2; have hfz111_3 := blk_frozen ab.out 3; have hfz111_4 := blk_frozen ab.out 4; have hfz111_5 := blk_frozen ab.out 5; have hfz111_6 := blk_frozen ab.out 6))
               have n0_ : Aside0 (Kd.R (Kd.int .i64) 3 (w109.setCell ⟨ac, 4, none⟩ (.slice bc t375.length bd)) w.heap.size (fun k_ => some k_ ≠ (.slice bf t367.length bg : Value).ownBlock) (.slice ba t360.length bb) t360) := ⟨by (with_reducible repeat (first | apply Kd.R_alloc | apply Kd.R_drewN | apply Kd.R_drew)); exact Kd.R_mono (Kd.R_far (p := ⟨ac, 4, none⟩) (Kd.R_types HO_371003.out ab.out (by decide)) (fun _ hk => hk.2) (.slice bc t375.length bd)) (fun _ hk => hk.1)⟩
               have n1_ : Aside0 (Kd.R k63 63 (w109.setCell ⟨ac, 4, none⟩ (.slice bc t375.length bd)) w.heap.size (fun k_ => some k_ ≠ (.slice Ao108 t371.length co108 : Value).ownBlock ∧ some k_ ≠ (.slice bc t375.length bd : Value).ownBlock) (.slice Ao105 x371004_82.length co105) x371004_82) := ⟨by (with_reducible repeat (first | apply Kd.R_alloc | apply Kd.R_drewN | apply Kd.R_drew)); exact Kd.R_mono (Kd.R_far (p := ⟨ac, 4, none⟩) (Kd.R_types HO_371004.out ab.out (by decide)) (fun _ hk => hk.2) (.slice bc t375.length bd)) (fun _ hk => ⟨hk.1.1.2, hk.1.2⟩)⟩
               have n2_ : Aside0 (Kd.R (Kd.int .i64) 3 (w109.setCell ⟨ac, 4, none⟩ (.slice bc t375.length bd)) w.heap.size (fun k_ => some k_ ≠ (.slice ba t360.length bb : Value).ownBlock) (.slice bf t367.length bg) t367) := ⟨by (with_reducible repeat (first | apply Kd.R_alloc | apply Kd.R_drewN | apply Kd.R_drew)); exact Kd.R_mono (Kd.R_far (p := ⟨ac, 4, none⟩) (Kd.R_types HO_371006.out ab.out (by decide)) (fun _ hk => hk.2) (.slice bc t375.length bd)) (fun _ hk => hk.1)⟩
               have n3_ : Aside0 (Kd.R k63 63 (w109.setCell ⟨ac, 4, none⟩ (.slice bc t375.length bd)) w.heap.size (fun k_ => some k_ ≠ (.slice Ao105 x371004_82.length co105 : Value).ownBlock ∧ some k_ ≠ (.slice bc t375.length bd : Value).ownBlock) (.slice Ao108 t371.length co108) t371) := ⟨by (with_reducible repeat (first | apply Kd.R_alloc | apply Kd.R_drewN | apply Kd.R_drew)); exact Kd.R_mono (Kd.R_far (p := ⟨ac, 4, none⟩) (Kd.R_types bh.out ab.out (by decide)) (fun _ hk => hk.2) (.slice bc t375.length bd)) (fun _ hk => ⟨hk.1.1.2, hk.1.2⟩)⟩
               have n4_ : Aside0 (Kd.R k63 63 (w109.setCell ⟨ac, 4, none⟩ (.slice bc t375.length bd)) w.heap.size (fun k_ => some k_ ≠ (.slice Ao105 x371004_82.length co105 : Value).ownBlock ∧ some k_ ≠ (.slice Ao108 t371.length co108 : Value).ownBlock) (.slice bc t375.length bd) t375) := ⟨by (with_reducible repeat (first | apply Kd.R_alloc | apply Kd.R_drewN | apply Kd.R_drew)); exact Kd.R_mono (Kd.R_far (p := ⟨ac, 4, none⟩) (Kd.R_types b9.out ab.out (by decide)) (fun _ hk => hk.2) (.slice bc t375.length bd)) (fun _ hk => ⟨hk.1.1.2, hk.1.2⟩)⟩
               have n5_ : Aside0 ((w109.setCell ⟨ac, 4, none⟩ (.slice bc t375.length bd)).heap[ak]? = some (.cells #[.int .i64 bv, .int .i64 bw, .int .i64 bx, .slice b2 bk.length b3, .slice b4 bl.length b5, .int .i64 bz, .slice b6 bm.length b8] 30 (0, 0))) := ⟨by (with_reducible repeat (first | refine blk_drewN ?_ _ | refine blk_drew ?_ | refine blk_alloc ?_ _)); refine blk_far ?_ aj.out _; (with_reducible repeat (first | refine blk_drewN ?_ _ | refine blk_drew ?_ | refine blk_alloc ?_ _)); exact ae.out⟩
               have n6_ : Aside0 ((w109.setCell ⟨ac, 4, none⟩ (.slice bc t375.length bd)).heap[ad]? = some (.cells #[.int .i64 ap, .int .i64 aq, .int .i64 ar, .slice bn au.length bo, .slice bp av.length bq, .bool bi, .slice bt ao.length bu] 37 (0, 0))) := ⟨by (with_reducible repeat (first | refine blk_drewN ?_ _ | refine blk_drew ?_ | refine blk_alloc ?_ _)); refine blk_far ?_ ah.out _; (with_reducible repeat (first | refine blk_drewN ?_ _ | refine blk_drew ?_ | refine blk_alloc ?_ _)); exact aa.out⟩
               have n7_ : Aside0 ((w109.setCell ⟨ac, 4, none⟩ (.slice bc t375.length bd)).heap[ag]? = some (.cells #[.int .i64 0, .int .i64 0, .int .i64 0, .slice none 0 0, .slice none 0 0, .int .i64 0, .slice none 0 0] 30 (0, 0))) := ⟨by (with_reducible repeat (first | refine blk_drewN ?_ _ | refine blk_drew ?_ | refine blk_alloc ?_ _)); refine blk_far ?_ ai.out _; (with_reducible repeat (first | refine blk_drewN ?_ _ | refine blk_drew ?_ | refine blk_alloc ?_ _)); exact af.out⟩
               have n8_ : Aside0 ((w109.setCell ⟨ac, 4, none⟩ (.slice bc t375.length bd)).heap[ac]? = some (.cells #[.int .i64 x371000_32, .int .i64 x371001_56, .int .i64 x371002_69, .slice ba t360.length bb, .slice bc t375.length bd, .int .i64 t366, .slice bf t367.length bg] 30 (0, 0))) := ⟨by (with_reducible repeat (first | refine blk_drewN ?_ _ | refine blk_drew ?_ | refine blk_alloc ?_ _)); refine blk_put (cs := #[.int .i64 x371000_32, .int .i64 x371001_56, .int .i64 x371002_69, .slice ba t360.length bb, .slice Ao105 x371004_82.length co105, .int .i64 t366, .slice bf t367.length bg]) ?_ 4 _ rfl; (with_reducible repeat (first | refine blk_drewN ?_ _ | refine blk_drew ?_ | refine blk_alloc ?_ _)); exact ab.out⟩
               have n9_ : Aside0 (Below w.heap.size w (w109.setCell ⟨ac, 4, none⟩ (.slice bc t375.length bd))) := ⟨by repeat (first | (with_reducible first | exact HB.out | apply below_alloc | apply pw_below_drewN | apply below_drew1 | refine below_set ?_ al.out | refine below_set ?_ am.out | refine below_set ?_ an.out | refine below_set ?_ bj.out) | exact HB.out)⟩
               (try clear HO_371003)
               (try clear HO_371004)
               (try clear HO_371006)
               (try clear bh)
               (try clear b9)
               (try clear ae)
               (try clear aa)
               (try clear af)
               (try clear ab)
               (try clear HB)
               generalize (w109.setCell ⟨ac, 4, none⟩ (.slice bc t375.length bd)) = w112 at n0_ n1_ n2_ n3_ n4_ n5_ n6_ n7_ n8_ n9_ ⊢
               have HO_371003 := n0_
               have HO_371004 := n1_
               have HO_371006 := n2_
               have bh := n3_
               have b9 := n4_
               have ae := n5_
               have aa := n6_
               have af := n7_
               have ab := n8_
               have HB := n9_
               clear n0_ n1_ n2_ n3_ n4_ n5_ n6_ n7_ n8_ n9_
               replace HO_371003 := Aside0.mk (Kd.R_drew HO_371003.out)
               replace HO_371004 := Aside0.mk (Kd.R_drew HO_371004.out)
               replace HO_371006 := Aside0.mk (Kd.R_drew HO_371006.out)
               replace bh := Aside0.mk (Kd.R_drew bh.out)
               replace b9 := Aside0.mk (Kd.R_drew b9.out)
               replace ae := Aside0.mk (blk_drew ae.out)
               replace aa := Aside0.mk (blk_drew aa.out)
               replace af := Aside0.mk (blk_drew af.out)
               replace ab := Aside0.mk (blk_drew ab.out)
               replace HB := Aside0.mk (below_drew1 HB.out)
               refine start_ (n := 8) (S := kd143.S0 ad ac (.int .i64 ap) (.int .i64 aq) (.int .i64 ar) (.slice bn au.length bo) (.slice bp av.length bq) (.bool bi) (.slice bt ao.length bu) (.int .i64 x371000_32) (.int .i64 x371001_56) (.int .i64 x371002_69) (.slice ba t360.length bb) (.slice bc t375.length bd) (.int .i64 t366) (.slice bf t367.length bg)) (ds := [7]) #[false, false, false, false, false, false, false, false] (by kernel_rfl) rfl rfl (kd143.b7 aa.out (kd143.b7e ab.out)) (fun hHeld => ?_); refine with_tabW attr_Do.tab19 attr_Do.bits19 (fun HT_ HW_ => ?_)
               generalize w112.drew = w113 at HO_371003 HO_371004 HO_371006 bh b9 ae aa af ab HB hHeld ⊢
               refine pure_ (i := 0) (N := some 73) (v := ?_) (a' := ?_) #[true, false, false, false, false, false, false, false] rfl rfl (any_of HT_.out (by kernel_rfl)) (fun _ _ _ h => h) (Or.inl ⟨by rfl, ?_⟩) ?_ ?_
               rotate_left
               ·intro w'
                go_simp
                with_reducible rfl
               rotate_left
               ·simp only [Act.put, List.setIfInBounds_toArray, List.set_cons_zero, List.set_cons_succ, i64_w, i32_w]
                rfl
               refine pure_ (i := 3) (N := some 76) (v := ?_) (a' := ?_) #[true, false, false, true, false, false, false, false] rfl rfl (any_of HT_.out (by kernel_rfl)) (fun _ _ _ h => h) (Or.inl ⟨by rfl, ?_⟩) ?_ ?_
               rotate_left
               ·intro w'
                go_simp
                with_reducible rfl
               rotate_left
               ·simp only [Act.put, List.setIfInBounds_toArray, List.set_cons_zero, List.set_cons_succ, i64_w, i32_w]
                rfl
               refine take_ (i := 1) (N := some 74) (v := ?_) (a' := ?_) #[true, true, false, true, false, false, false, false] rfl rfl (take_ofW HT_.out HW_.out (by kernel_rfl)) (fun _ _ _ h => h) (Or.inl ⟨by rfl, ?_⟩) hHeld ?_ ?_
               rotate_left
               ·rintro w' ⟨s0, s1, s2, s3, s4, s5, s6, s7, s8, s9, s10, s11, s12, s13⟩
                go_simp
                with_reducible rfl
               rotate_left
               ·simp only [Act.put, List.setIfInBounds_toArray, List.set_cons_zero, List.set_cons_succ, i64_w, i32_w]
                rfl
               refine take_ (i := 4) (N := some 77) (v := ?_) (a' := ?_) #[true, true, false, true, true, false, false, false] rfl rfl (take_ofW HT_.out HW_.out (by kernel_rfl)) (fun _ _ _ h => h) (Or.inl ⟨by rfl, ?_⟩) hHeld ?_ ?_
               rotate_left
               ·rintro w' ⟨s0, s1, s2, s3, s4, s5, s6, s7, s8, s9, s10, s11, s12, s13⟩
                go_simp
                with_reducible rfl
               rotate_left
               ·simp only [Act.put, List.setIfInBounds_toArray, List.set_cons_zero, List.set_cons_succ, i64_w, i32_w]
                rfl
               refine one_ (i := 2) (N := some 75) #[true, true, true, true, true, false, false, false] rfl rfl (one_of HT_.out (by kernel_rfl)) (by decide) (fun K hK => ?_)
               refine goes_ Try.func52 (by kernel_rfl) rfl #[.slice bt ao.length bu] (by rfl) rfl rfl (by (try simp only [List.map_toArray, List.map_cons, List.map_nil]); first | done | rfl) ?_
               with_reducible refine (attr_cloned_int.calls _ _ ao t379 _ ?side1 ?side2 A96.out).mono ?_
               (case side1 => repeat (first | exact (Kd.C_below HR1_6.out HB.out) | (with_reducible refine Kd.C_alloc ?_ _) | (with_reducible refine Kd.C_drewN ?_ _) | (with_reducible refine Kd.C_drew ?_)))
               (case side2 => exact HC1_6.out)
               rintro e w114 ⟨v380, rfl, ho0, hb⟩
               refine ⟨_, rfl, ?_⟩
               have n0_ := Aside0.mk (Kd.R_elder' (by (with_reducible repeat (first | apply Kd.R_alloc | apply Kd.R_drewN | apply Kd.R_drew)); exact HO_371003.out) (Kd.R_base ho0) hb)
               have n1_ := Aside0.mk (Kd.R_below (by (with_reducible repeat (first | apply Kd.R_alloc | apply Kd.R_drewN | apply Kd.R_drew)); exact HO_371004.out) hb)
               have n2_ := Aside0.mk (Kd.R_elder' (by (with_reducible repeat (first | apply Kd.R_alloc | apply Kd.R_drewN | apply Kd.R_drew)); exact HO_371006.out) (Kd.R_base ho0) hb)
               have n3_ := Aside0.mk (Kd.R_below (by (with_reducible repeat (first | apply Kd.R_alloc | apply Kd.R_drewN | apply Kd.R_drew)); exact bh.out) hb)
               have n4_ := Aside0.mk (Kd.R_below (by (with_reducible repeat (first | apply Kd.R_alloc | apply Kd.R_drewN | apply Kd.R_drew)); exact b9.out) hb)
               have n5_ := Aside0.mk (Kd.R_lower (Kd.R_new' (Kd.R_new' ho0 (Kd.R_lt (by (with_reducible repeat (first | apply Kd.R_alloc | apply Kd.R_drewN | apply Kd.R_drew)); exact HO_371003.out))) (Kd.R_lt (by (with_reducible repeat (first | apply Kd.R_alloc | apply Kd.R_drewN | apply Kd.R_drew)); exact HO_371006.out))) (below_size (by repeat (first | (with_reducible first | exact HB.out | apply below_alloc | apply pw_below_drewN | apply below_drew1 | refine below_set ?_ al.out | refine below_set ?_ am.out | refine below_set ?_ an.out | refine below_set ?_ bj.out) | exact HB.out))))
               have n6_ := Aside0.mk (blk_below (g := ak) (by (with_reducible repeat (first | refine blk_drewN ?_ _ | refine blk_drew ?_ | refine blk_alloc ?_ _)); exact ae.out) hb)
               have n7_ := Aside0.mk (blk_below (g := ad) (by (with_reducible repeat (first | refine blk_drewN ?_ _ | refine blk_drew ?_ | refine blk_alloc ?_ _)); exact aa.out) hb)
               have n8_ := Aside0.mk (blk_below (g := ag) (by (with_reducible repeat (first | refine blk_drewN ?_ _ | refine blk_drew ?_ | refine blk_alloc ?_ _)); exact af.out) hb)
               have n9_ := Aside0.mk (blk_below (g := ac) (by (with_reducible repeat (first | refine blk_drewN ?_ _ | refine blk_drew ?_ | refine blk_alloc ?_ _)); exact ab.out) hb)
               have n10_ := Aside0.mk (below_step (by repeat (first | (with_reducible first | exact HB.out | apply below_alloc | apply pw_below_drewN | apply below_drew1 | refine below_set ?_ al.out | refine below_set ?_ am.out | refine below_set ?_ an.out | refine below_set ?_ bj.out) | exact HB.out)) hb)
               clear HO_371003
               clear HO_371004
               clear HO_371006
               clear bh
               clear b9
               clear ae
               clear aa
               clear af
               clear ab
               clear HB
               have HO_371003 := n0_
               have HO_371004 := n1_
               have HO_371006 := n2_
               have bh := n3_
               have b9 := n4_
               have dc := n5_
               have ae := n6_
               have aa := n7_
               have af := n8_
               have ab := n9_
               have HB := n10_
               clear n0_ n1_ n2_ n3_ n4_ n5_ n6_ n7_ n8_ n9_ n10_
               (try clear hb)
               (try clear dh)
               (try clear hk)
               (try clear hi)
               (try clear ho0)
               refine hK.out _ _ (kd143.b7 aa.out (kd143.b7e ab.out)) (fun hHeld => ?_)
               clear hK K
               refine norm_ (a' := ?_) ?_ ?_
               rotate_left
               ·show Act.put _ (some 75) _ = _
                simp only [Act.put, List.setIfInBounds_toArray, List.set_cons_zero, List.set_cons_succ, i64_w, i32_w]
                rfl
               refine one_ (i := 5) (N := some 78) #[true, true, true, true, true, true, false, false] rfl rfl (one_of HT_.out (by kernel_rfl)) (by decide) (fun K hK => ?_)
               refine Kd.R_append_rows_step (Kd.int .i64) (w0 := w) w.heap.size (by rfl) (.tmp 75) (.tmp 77) 27 3 (.int .i64 0) 8 rfl Try.underlying27 info3 rfl (by decide) (by omega) v380 t379 t360 _ _ _ (fun k_ => some k_ ≠ (.slice ba t360.length bb : Value).ownBlock ∧ some k_ ≠ (.slice bf t367.length bg : Value).ownBlock) (fun _ => False) rfl rfl ?aO ?aR (fun _ _ h => h) (fun _ h => h.elim) ?aF ?aB ?aS ?aL ?_
               (case aR => repeat (first | exact (Kd.R_reads' HO_371003.out).2.2 | (with_reducible refine Kd.C_alloc ?_ _) | (with_reducible refine Kd.C_drewN ?_ _) | (with_reducible refine Kd.C_drew ?_)))
               (case aB => exact (by repeat (first | (with_reducible first | exact HB.out | apply below_alloc | apply pw_below_drewN | apply below_drew1 | refine below_set ?_ al.out | refine below_set ?_ am.out | refine below_set ?_ an.out | refine below_set ?_ bj.out) | exact HB.out)))
               (case aF => exact (fun k_ hk => ⟨Kd.fresh' (Kd.R_lt (by (with_reducible repeat (first | apply Kd.R_alloc | apply Kd.R_drewN | apply Kd.R_drew)); exact HO_371003.out)) k_ hk, Kd.fresh' (Kd.R_lt (by (with_reducible repeat (first | apply Kd.R_alloc | apply Kd.R_drewN | apply Kd.R_drew)); exact HO_371006.out)) k_ hk⟩))
               (case aO => exact (by (with_reducible repeat (first | apply Kd.R_alloc | apply Kd.R_drewN | apply Kd.R_drew)); exact Kd.R_mono dc.out (fun _ hk => ⟨hk.1.2, hk.2⟩)))
               (case aS => exact (below_size (by repeat (first | (with_reducible first | exact HB.out | apply below_alloc | apply pw_below_drewN | apply below_drew1 | refine below_set ?_ al.out | refine below_set ?_ am.out | refine below_set ?_ an.out | refine below_set ?_ bj.out) | exact HB.out))))
               (case aL => have := LMc97.out; omega)
               intro v383 w115 ho hb hg hat
               rw [← Ny382.out] at ho
               replace HO_371003 := Aside0.mk (Kd.R_after (ok := (fun k_ => some k_ ≠ (.slice bf t367.length bg : Value).ownBlock)) (by (with_reducible repeat (first | apply Kd.R_alloc | apply Kd.R_drewN | apply Kd.R_drew)); exact HO_371003.out) hg hat)
               replace HO_371004 := Aside0.mk (Kd.R_over' (by (with_reducible repeat (first | apply Kd.R_alloc | apply Kd.R_drewN | apply Kd.R_drew)); exact HO_371004.out) (Kd.R_typed (by (with_reducible repeat (first | apply Kd.R_alloc | apply Kd.R_drewN | apply Kd.R_drew)); exact dc.out)) (by decide) hg)
               replace HO_371006 := Aside0.mk (Kd.R_after (ok := (fun k_ => some k_ ≠ (.slice ba t360.length bb : Value).ownBlock)) (by (with_reducible repeat (first | apply Kd.R_alloc | apply Kd.R_drewN | apply Kd.R_drew)); exact HO_371006.out) hg hat)
               replace ae := Aside0.mk (blk_grown (g := ak) (o := .cells #[.int .i64 bv, .int .i64 bw, .int .i64 bx, .slice b2 bk.length b3, .slice b4 bl.length b5, .int .i64 bz, .slice b6 bm.length b8] 30 (0, 0)) (by (with_reducible repeat (first | refine blk_drewN ?_ _ | refine blk_drew ?_ | refine blk_alloc ?_ _)); exact ae.out) hg (Kd.R_ne dc.out ae.out (by decide)))
               replace aa := Aside0.mk (blk_grown (g := ad) (o := .cells #[.int .i64 ap, .int .i64 aq, .int .i64 ar, .slice bn au.length bo, .slice bp av.length bq, .bool bi, .slice bt ao.length bu] 37 (0, 0)) (by (with_reducible repeat (first | refine blk_drewN ?_ _ | refine blk_drew ?_ | refine blk_alloc ?_ _)); exact aa.out) hg (Kd.R_ne dc.out aa.out (by decide)))
               replace af := Aside0.mk (blk_grown (g := ag) (o := .cells #[.int .i64 0, .int .i64 0, .int .i64 0, .slice none 0 0, .slice none 0 0, .int .i64 0, .slice none 0 0] 30 (0, 0)) (by (with_reducible repeat (first | refine blk_drewN ?_ _ | refine blk_drew ?_ | refine blk_alloc ?_ _)); exact af.out) hg (Kd.R_ne dc.out af.out (by decide)))
               replace ab := Aside0.mk (blk_grown (g := ac) (o := .cells #[.int .i64 x371000_32, .int .i64 x371001_56, .int .i64 x371002_69, .slice ba t360.length bb, .slice bc t375.length bd, .int .i64 t366, .slice bf t367.length bg] 30 (0, 0)) (by (with_reducible repeat (first | refine blk_drewN ?_ _ | refine blk_drew ?_ | refine blk_alloc ?_ _)); exact ab.out) hg (Kd.R_ne dc.out ab.out (by decide)))
               replace bh := Aside0.mk (Kd.R_over' (by (with_reducible repeat (first | apply Kd.R_alloc | apply Kd.R_drewN | apply Kd.R_drew)); exact bh.out) (Kd.R_typed (by (with_reducible repeat (first | apply Kd.R_alloc | apply Kd.R_drewN | apply Kd.R_drew)); exact dc.out)) (by decide) hg)
               replace b9 := Aside0.mk (Kd.R_over' (by (with_reducible repeat (first | apply Kd.R_alloc | apply Kd.R_drewN | apply Kd.R_drew)); exact b9.out) (Kd.R_typed (by (with_reducible repeat (first | apply Kd.R_alloc | apply Kd.R_drewN | apply Kd.R_drew)); exact dc.out)) (by decide) hg)
               replace HB := Aside0.mk (hb)
               have HO384 := Aside0.mk (ho)
               clear dc
               clear ho hb hg hat
               obtain ⟨da, db, eo116⟩ := Kd.R_slice HO384.out
               (first | subst eo116 | (injection eo116 with f1_ f2_ f3_; have f4_ := f1_.symm; have f5_ := f3_.symm; clear f1_ f2_ f3_; subst f4_; subst f5_))
               refine hK.out _ _ (kd143.b7 aa.out (kd143.b7e ab.out)) (fun hHeld => ?_)
               clear hK K
               refine norm_ (a' := ?_) ?_ ?_
               rotate_left
               ·show Act.put _ (some 78) _ = _
                simp only [Act.put, List.setIfInBounds_toArray, List.set_cons_zero, List.set_cons_succ, i64_w, i32_w]
                rfl
               refine pure_ (i := 6) (N := some 79) (v := ?_) (a' := ?_) #[true, true, true, true, true, true, true, false] rfl rfl (any_of HT_.out (by kernel_rfl)) (fun _ _ _ h => h) (Or.inl ⟨by rfl, ?_⟩) ?_ ?_
               rotate_left
               ·intro w'
                go_simp
                with_reducible rfl
               rotate_left
               ·simp only [Act.put, List.setIfInBounds_toArray, List.set_cons_zero, List.set_cons_succ, i64_w, i32_w]
                rfl
               refine last_ (i := 7) (N := none) #[true, true, true, true, true, true, true, true] rfl rfl (one_of HT_.out (by kernel_rfl)) (by decide) (fun K hK => ?_)
               have hs117 : w115.cell? ⟨ac, 3, none⟩ = some (.slice ba t360.length bb) := (blk_cell ab.out 3).trans rfl
               have hfs117 := blk_frozen ab.out 3
               have hns117_0 := aj.out
               have hns117_1 := ah.out
               have hns117_2 := ai.out
               have hms117_0 := br.out
               have hms117_1 := be.out
               have hms117_2 := bs.out
               refine skip_ (w1 := ?_) (by rfl) rfl ?_ ?_
               rotate_left
               ·go_simp
                rfl
               refine hK.out _ _ ?_
               clear hK K
               refine done_ (done_of HT_.out (by kernel_rfl)) ?_
               have hcz118_0 : w115.cell? ⟨ac, 0, none⟩ = some (.int .i64 x371000_32) := (blk_cell ab.out 0).trans rfl
               have hcz118_1 : w115.cell? ⟨ac, 1, none⟩ = some (.int .i64 x371001_56) := (blk_cell ab.out 1).trans rfl
               have hcz118_2 : w115.cell? ⟨ac, 2, none⟩ = some (.int .i64 x371002_69) := (blk_cell ab.out 2).trans rfl
               have hcz118_3 : w115.cell? ⟨ac, 3, none⟩ = some (.slice ba t360.length bb) := (blk_cell ab.out 3).trans rfl
               have hcz118_4 : w115.cell? ⟨ac, 4, none⟩ = some (.slice bc t375.length bd) := (blk_cell ab.out 4).trans rfl
               have hcz118_5 : w115.cell? ⟨ac, 5, none⟩ = some (.int .i64 t366) := (blk_cell ab.out 5).trans rfl
               have hcz118_6 : w115.cell? ⟨ac, 6, none⟩ = some (.slice bf t367.length bg) := (blk_cell ab.out 6).trans rfl
               have hfz118_0 := blk_frozen ab.out 0
               have hfz118_1 := blk_frozen ab.out 1
               have hfz118_2 := blk_frozen ab.out 2
               have hfz118_3 := blk_frozen ab.out 3
               have hfz118_4 := blk_frozen ab.out 4
               have hfz118_5 := blk_frozen ab.out 5
               have hfz118_6 := blk_frozen ab.out 6
               have hnb119 := NB354_352.out
               have hnc119 := NB352_354.out
               have hcz120_0 : w115.cell? ⟨ag, 0, none⟩ = some (.int .i64 0) := (blk_cell af.out 0).trans rfl
               have hcz120_1 : w115.cell? ⟨ag, 1, none⟩ = some (.int .i64 0) := (blk_cell af.out 1).trans rfl
               have hcz120_2 : w115.cell? ⟨ag, 2, none⟩ = some (.int .i64 0) := (blk_cell af.out 2).trans rfl
               have hcz120_3 : w115.cell? ⟨ag, 3, none⟩ = some (.slice none 0 0) := (blk_cell af.out 3).trans rfl
               have hcz120_4 : w115.cell? ⟨ag, 4, none⟩ = some (.slice none 0 0) := (blk_cell af.out 4).trans rfl
               have hcz120_5 : w115.cell? ⟨ag, 5, none⟩ = some (.int .i64 0) := (blk_cell af.out 5).trans rfl
               have hcz120_6 : w115.cell? ⟨ag, 6, none⟩ = some (.slice none 0 0) := (blk_cell af.out 6).trans rfl
               have hfz120_0 := blk_frozen af.out 0
               have hfz120_1 := blk_frozen af.out 1
               have hfz120_2 := blk_frozen af.out 2
               have hfz120_3 := blk_frozen af.out 3
               have hfz120_4 := blk_frozen af.out 4
               have hfz120_5 := blk_frozen af.out 5
               have hfz120_6 := blk_frozen af.out 6
               try go_wp2
               refine bodyPost_ret (results_ct rfl _ _ ag 30 #[.int .i64 x371000_32, .int .i64 x371001_56, .int .i64 x371002_69, .slice da dd.length db, .slice bc t375.length bd, .int .i64 t366, .slice bf t367.length bg] (0, 0) _ rfl (by (with_reducible repeat (first | refine blk_drewN ?_ _ | refine blk_drew ?_ | refine blk_alloc ?_ _)); refine blk_put (cs := #[.int .i64 x371000_32, .int .i64 x371001_56, .int .i64 x371002_69, .slice da dd.length db, .slice bc t375.length bd, .int .i64 t366, .slice none 0 0]) ?_ 6 _ rfl; (with_reducible repeat (first | refine blk_drewN ?_ _ | refine blk_drew ?_ | refine blk_alloc ?_ _)); refine blk_put (cs := #[.int .i64 x371000_32, .int .i64 x371001_56, .int .i64 x371002_69, .slice da dd.length db, .slice bc t375.length bd, .int .i64 0, .slice none 0 0]) ?_ 5 _ rfl; (with_reducible repeat (first | refine blk_drewN ?_ _ | refine blk_drew ?_ | refine blk_alloc ?_ _)); refine blk_put (cs := #[.int .i64 x371000_32, .int .i64 x371001_56, .int .i64 x371002_69, .slice da dd.length db, .slice none 0 0, .int .i64 0, .slice none 0 0]) ?_ 4 _ rfl; (with_reducible repeat (first | refine blk_drewN ?_ _ | refine blk_drew ?_ | refine blk_alloc ?_ _)); refine blk_put (cs := #[.int .i64 x371000_32, .int .i64 x371001_56, .int .i64 x371002_69, .slice none 0 0, .slice none 0 0, .int .i64 0, .slice none 0 0]) ?_ 3 _ rfl; (with_reducible repeat (first | refine blk_drewN ?_ _ | refine blk_drew ?_ | refine blk_alloc ?_ _)); refine blk_put (cs := #[.int .i64 x371000_32, .int .i64 x371001_56, .int .i64 0, .slice none 0 0, .slice none 0 0, .int .i64 0, .slice none 0 0]) ?_ 2 _ rfl; (with_reducible repeat (first | refine blk_drewN ?_ _ | refine blk_drew ?_ | refine blk_alloc ?_ _)); refine blk_put (cs := #[.int .i64 x371000_32, .int .i64 0, .int .i64 0, .slice none 0 0, .slice none 0 0, .int .i64 0, .slice none 0 0]) ?_ 1 _ rfl; (with_reducible repeat (first | refine blk_drewN ?_ _ | refine blk_drew ?_ | refine blk_alloc ?_ _)); refine blk_put (cs := #[.int .i64 0, .int .i64 0, .int .i64 0, .slice none 0 0, .slice none 0 0, .int .i64 0, .slice none 0 0]) ?_ 0 _ rfl; (with_reducible repeat (first | refine blk_drewN ?_ _ | refine blk_drew ?_ | refine blk_alloc ?_ _)); refine blk_far ?_ ai.out _; (with_reducible repeat (first | refine blk_drewN ?_ _ | refine blk_drew ?_ | refine blk_alloc ?_ _)); exact af.out) Try.underlying30 rfl (by kernel_rfl)) rfl ?_
               exact ⟨_, _, _, by first | rfl | (simp [errW_none, errW_some] <;> rfl) | (simp [*, errW_none, errW_some] <;> rfl), by (with_reducible repeat (first | apply Kd.R_alloc | apply Kd.R_drewN | apply Kd.R_drew)); exact Kd.R_mono (Kd.R_far (p := ⟨ag, 6, none⟩) (Kd.R_far (p := ⟨ag, 5, none⟩) (Kd.R_far (p := ⟨ag, 4, none⟩) (Kd.R_far (p := ⟨ag, 3, none⟩) (Kd.R_far (p := ⟨ag, 2, none⟩) (Kd.R_far (p := ⟨ag, 1, none⟩) (Kd.R_far (p := ⟨ag, 0, none⟩) (Kd.R_far (p := ⟨ac, 3, none⟩) (Kd.R_types (Kd.R_types HO384.out ab.out (by decide)) af.out (by decide)) (fun _ hk => hk.1.2) (.slice da dd.length db)) (fun _ hk => hk.2) (.int .i64 x371000_32)) (fun _ hk => hk.2) (.int .i64 x371001_56)) (fun _ hk => hk.2) (.int .i64 x371002_69)) (fun _ hk => hk.2) (.slice da dd.length db)) (fun _ hk => hk.2) (.slice bc t375.length bd)) (fun _ hk => hk.2) (.int .i64 t366)) (fun _ hk => hk.2) (.slice bf t367.length bg)) (fun _ hk => hk.1.1.2), by (with_reducible repeat (first | apply Kd.R_alloc | apply Kd.R_drewN | apply Kd.R_drew)); exact Kd.R_mono (Kd.R_far (p := ⟨ag, 6, none⟩) (Kd.R_far (p := ⟨ag, 5, none⟩) (Kd.R_far (p := ⟨ag, 4, none⟩) (Kd.R_far (p := ⟨ag, 3, none⟩) (Kd.R_far (p := ⟨ag, 2, none⟩) (Kd.R_far (p := ⟨ag, 1, none⟩) (Kd.R_far (p := ⟨ag, 0, none⟩) (Kd.R_far (p := ⟨ac, 3, none⟩) (Kd.R_types (Kd.R_types b9.out ab.out (by decide)) af.out (by decide)) (fun _ hk => hk.1.2) (.slice da dd.length db)) (fun _ hk => hk.2) (.int .i64 x371000_32)) (fun _ hk => hk.2) (.int .i64 x371001_56)) (fun _ hk => hk.2) (.int .i64 x371002_69)) (fun _ hk => hk.2) (.slice da dd.length db)) (fun _ hk => hk.2) (.slice bc t375.length bd)) (fun _ hk => hk.2) (.int .i64 t366)) (fun _ hk => hk.2) (.slice bf t367.length bg)) (fun _ hk => trivial), by (with_reducible repeat (first | apply Kd.R_alloc | apply Kd.R_drewN | apply Kd.R_drew)); exact Kd.R_mono (Kd.R_far (p := ⟨ag, 6, none⟩) (Kd.R_far (p := ⟨ag, 5, none⟩) (Kd.R_far (p := ⟨ag, 4, none⟩) (Kd.R_far (p := ⟨ag, 3, none⟩) (Kd.R_far (p := ⟨ag, 2, none⟩) (Kd.R_far (p := ⟨ag, 1, none⟩) (Kd.R_far (p := ⟨ag, 0, none⟩) (Kd.R_far (p := ⟨ac, 3, none⟩) (Kd.R_types (Kd.R_types HO_371006.out ab.out (by decide)) af.out (by decide)) (fun _ hk => hk.1.2) (.slice da dd.length db)) (fun _ hk => hk.2) (.int .i64 x371000_32)) (fun _ hk => hk.2) (.int .i64 x371001_56)) (fun _ hk => hk.2) (.int .i64 x371002_69)) (fun _ hk => hk.2) (.slice da dd.length db)) (fun _ hk => hk.2) (.slice bc t375.length bd)) (fun _ hk => hk.2) (.int .i64 t366)) (fun _ hk => hk.2) (.slice bf t367.length bg)) (fun _ hk => hk.1.1.2), by repeat (first | (with_reducible first | exact HB.out | apply below_alloc | apply pw_below_drewN | apply below_drew1 | refine below_set ?_ al.out | refine below_set ?_ am.out | refine below_set ?_ an.out | refine below_set ?_ bj.out) | exact HB.out)⟩
              ·rw [if_neg c97] at H
               exact absurd H (by simp)
             ·rw [if_neg c95] at H
              have c95b0 : (t376 == 0) = false := beq_eq_false_iff_ne.mpr c95
              have c95b1 : (t376 != 0) = true := bne_iff_ne.mpr c95
              simp only [Option.some.injEq, Prod.mk.injEq] at H
              obtain ⟨rfl, rfl, rfl, rfl, rfl, rfl, rfl, rfl⟩ := H
              have hnb121 := br.out
              have hnc121 := aj.out
              have hnb122 := be.out
              have hnc122 := ah.out
              have hnb123 := bs.out
              have hnc123 := ai.out
              have hcz124_0 : wc.cell? ⟨ac, 0, none⟩ = some (.int .i64 x371000_32) := (blk_cell ab.out 0).trans rfl
              have hcz124_1 : wc.cell? ⟨ac, 1, none⟩ = some (.int .i64 x371001_56) := (blk_cell ab.out 1).trans rfl
              have hcz124_2 : wc.cell? ⟨ac, 2, none⟩ = some (.int .i64 x371002_69) := (blk_cell ab.out 2).trans rfl
              have hcz124_3 : wc.cell? ⟨ac, 3, none⟩ = some (.slice ba t360.length bb) := (blk_cell ab.out 3).trans rfl
              have hcz124_4 : wc.cell? ⟨ac, 4, none⟩ = some (u371004) := (blk_cell ab.out 4).trans rfl
              have hcz124_5 : wc.cell? ⟨ac, 5, none⟩ = some (.int .i64 t366) := (blk_cell ab.out 5).trans rfl
              have hcz124_6 : wc.cell? ⟨ac, 6, none⟩ = some (.slice bf t367.length bg) := (blk_cell ab.out 6).trans rfl
              have hfz124_0 := blk_frozen ab.out 0
              have hfz124_1 := blk_frozen ab.out 1
              have hfz124_2 := blk_frozen ab.out 2
              have hfz124_3 := blk_frozen ab.out 3
              have hfz124_4 := blk_frozen ab.out 4
              have hfz124_5 := blk_frozen ab.out 5
              have hfz124_6 := blk_frozen ab.out 6
              have hnb125 := ax.out
              have hnc125 := aw.out
              have hnb126 := ay.out
              have hnc126 := az.out
              have hcz127_0 : wc.cell? ⟨ad, 0, none⟩ = some (.int .i64 ap) := (blk_cell aa.out 0).trans rfl
              have hcz127_1 : wc.cell? ⟨ad, 1, none⟩ = some (.int .i64 aq) := (blk_cell aa.out 1).trans rfl
              have hcz127_2 : wc.cell? ⟨ad, 2, none⟩ = some (.int .i64 ar) := (blk_cell aa.out 2).trans rfl
              have hcz127_3 : wc.cell? ⟨ad, 3, none⟩ = some (.slice bn au.length bo) := (blk_cell aa.out 3).trans rfl
              have hcz127_4 : wc.cell? ⟨ad, 4, none⟩ = some (.slice bp av.length bq) := (blk_cell aa.out 4).trans rfl
              have hcz127_5 : wc.cell? ⟨ad, 5, none⟩ = some (.bool bi) := (blk_cell aa.out 5).trans rfl
              have hcz127_6 : wc.cell? ⟨ad, 6, none⟩ = some (.slice bt ao.length bu) := (blk_cell aa.out 6).trans rfl
              have hfz127_0 := blk_frozen aa.out 0
              have hfz127_1 := blk_frozen aa.out 1
              have hfz127_2 := blk_frozen aa.out 2
              have hfz127_3 := blk_frozen aa.out 3
              have hfz127_4 := blk_frozen aa.out 4
              have hfz127_5 := blk_frozen aa.out 5
              have hfz127_6 := blk_frozen aa.out 6
              obtain ⟨Ao128, co128, eo128⟩ := Kd.R_slice HO_371004.out
              subst eo128
              go_wp2_with (first | ((with_reducible refine gate_callee (f := 50) rfl ?_); refine goesL_ (some 57) rfl rfl Try.func50 (by kernel_rfl) rfl #[.slice Ao128 x371004_82.length co128, .slice bp av.length bq] rfl (by (try simp only [List.map_toArray, List.map_cons, List.map_nil]); first | done | rfl) ?_; (with_reducible refine (comm_Del.calls kj82 _ _ x371004_82 _ _ av t371 t372 _ ?side1 ?side2 ?side3 ?side4 A93.out).mono ?_); (case side1 | side3 => repeat (first | exact (Kd.R_reads' HO_371004.out).2.2 | exact (Kd.C_below HR1_4.out HB.out) | (with_reducible refine Kd.C_alloc ?_ _) | (with_reducible refine Kd.C_drewN ?_ _) | (with_reducible refine Kd.C_drew ?_))); (case side2 | side4 => first | exact (Kd.R_reads' HO_371004.out).2.1 | exact HC1_4.out); rintro e w129 ⟨v373, rfl, ho0, hb⟩; refine ⟨_, rfl, ?_⟩; have n0_ := Aside0.mk (Kd.R_below (by (with_reducible repeat (first | apply Kd.R_alloc | apply Kd.R_drewN | apply Kd.R_drew)); exact HO_371003.out) hb); have n1_ := Aside0.mk (Kd.R_elder' (by (with_reducible repeat (first | apply Kd.R_alloc | apply Kd.R_drewN | apply Kd.R_drew)); exact HO_371004.out) (Kd.R_base ho0) hb); have n2_ := Aside0.mk (Kd.R_below (by (with_reducible repeat (first | apply Kd.R_alloc | apply Kd.R_drewN | apply Kd.R_drew)); exact HO_371006.out) hb); have n3_ := Aside0.mk (Kd.R_lower (Kd.R_new' ho0 (Kd.R_lt (by (with_reducible repeat (first | apply Kd.R_alloc | apply Kd.R_drewN | apply Kd.R_drew)); exact HO_371004.out))) (below_size (by repeat (first | (with_reducible first | exact HB.out | apply below_alloc | apply pw_below_drewN | apply below_drew1 | refine below_set ?_ al.out | refine below_set ?_ am.out | refine below_set ?_ an.out | refine below_set ?_ bj.out) | exact HB.out)))); have n4_ := Aside0.mk (blk_below (g := ak) (by (with_reducible repeat (first | refine blk_drewN ?_ _ | refine blk_drew ?_ | refine blk_alloc ?_ _)); exact ae.out) hb); have n5_ := Aside0.mk (blk_below (g := ad) (by (with_reducible repeat (first | refine blk_drewN ?_ _ | refine blk_drew ?_ | refine blk_alloc ?_ _)); exact aa.out) hb); have n6_ := Aside0.mk (blk_below (g := ag) (by (with_reducible repeat (first | refine blk_drewN ?_ _ | refine blk_drew ?_ | refine blk_alloc ?_ _)); exact af.out) hb); have n7_ := Aside0.mk (blk_below (g := ac) (by (with_reducible repeat (first | refine blk_drewN ?_ _ | refine blk_drew ?_ | refine blk_alloc ?_ _)); exact ab.out) hb); have n8_ := Aside0.mk (below_step (by repeat (first | (with_reducible first | exact HB.out | apply below_alloc | apply pw_below_drewN | apply below_drew1 | refine below_set ?_ al.out | refine below_set ?_ am.out | refine below_set ?_ an.out | refine below_set ?_ bj.out) | exact HB.out)) hb); clear HO_371003; clear HO_371004; clear HO_371006; clear ae; clear aa; clear af; clear ab; clear HB; have HO_371003 := n0_; have HO_371004 := n1_; have HO_371006 := n2_; have bh := n3_; have ae := n4_; have aa := n5_; have af := n6_; have ab := n7_; have HB := n8_; clear n0_ n1_ n2_ n3_ n4_ n5_ n6_ n7_ n8_; (try clear hb); (try clear dh); (try clear hk); (try clear hi); (try clear ho0); have hcz130_0 : w129.cell? ⟨ad, 0, none⟩ = some (.int .i64 ap) := (blk_cell aa.out 0).trans rfl; have hcz130_1 : w129.cell? ⟨ad, 1, none⟩ = some (.int .i64 aq) := (blk_cell aa.out 1).trans rfl; have hcz130_2 : w129.cell? ⟨ad, 2, none⟩ = some (.int .i64 ar) := (blk_cell aa.out 2).trans rfl; have hcz130_3 : w129.cell? ⟨ad, 3, none⟩ = some (.slice bn au.length bo) := (blk_cell aa.out 3).trans rfl; have hcz130_4 : w129.cell? ⟨ad, 4, none⟩ = some (.slice bp av.length bq) := (blk_cell aa.out 4).trans rfl; have hcz130_5 : w129.cell? ⟨ad, 5, none⟩ = some (.bool bi) := (blk_cell aa.out 5).trans rfl; have hcz130_6 : w129.cell? ⟨ad, 6, none⟩ = some (.slice bt ao.length bu) := (blk_cell aa.out 6).trans rfl; have hfz130_0 := blk_frozen aa.out 0; have hfz130_1 := blk_frozen aa.out 1; have hfz130_2 := blk_frozen aa.out 2; have hfz130_3 := blk_frozen aa.out 3; have hfz130_4 := blk_frozen aa.out 4; have hfz130_5 := blk_frozen aa.out 5; have hfz130_6 := blk_frozen aa.out 6; obtain ⟨Ao131, co131, eo131⟩ := Kd.R_slice bh.out; subst eo131) | ((with_reducible refine gate_callee (f := 51) rfl ?_); refine goesL_ (some 64) rfl rfl Try.func51 (by kernel_rfl) rfl #[.slice Ao131 t371.length co131, .slice bn au.length bo] rfl (by (try simp only [List.map_toArray, List.map_cons, List.map_nil]); first | done | rfl) ?_; (with_reducible refine (comm_Add.calls kj82 _ _ t371 _ _ au t375 t376 _ ?side1 ?side2 ?side3 ?side4 A94.out).mono ?_); (case side1 | side3 => repeat (first | exact (Kd.R_reads' bh.out).2.2 | exact (Kd.C_below HR1_3.out HB.out) | (with_reducible refine Kd.C_alloc ?_ _) | (with_reducible refine Kd.C_drewN ?_ _) | (with_reducible refine Kd.C_drew ?_))); (case side2 | side4 => first | exact (Kd.R_reads' bh.out).2.1 | exact HC1_3.out); rintro e w132 ⟨v377, rfl, ho0, hb⟩; refine ⟨_, rfl, ?_⟩; have n0_ := Aside0.mk (Kd.R_below (by (with_reducible repeat (first | apply Kd.R_alloc | apply Kd.R_drewN | apply Kd.R_drew)); exact HO_371003.out) hb); have n1_ := Aside0.mk (Kd.R_elder' (by (with_reducible repeat (first | apply Kd.R_alloc | apply Kd.R_drewN | apply Kd.R_drew)); exact HO_371004.out) (Kd.R_base ho0) hb); have n2_ := Aside0.mk (Kd.R_below (by (with_reducible repeat (first | apply Kd.R_alloc | apply Kd.R_drewN | apply Kd.R_drew)); exact HO_371006.out) hb); have n3_ := Aside0.mk (Kd.R_elder' (by (with_reducible repeat (first | apply Kd.R_alloc | apply Kd.R_drewN | apply Kd.R_drew)); exact bh.out) (Kd.R_base ho0) hb); have n4_ := Aside0.mk (Kd.R_lower (Kd.R_new' (Kd.R_new' ho0 (Kd.R_lt (by (with_reducible repeat (first | apply Kd.R_alloc | apply Kd.R_drewN | apply Kd.R_drew)); exact HO_371004.out))) (Kd.R_lt (by (with_reducible repeat (first | apply Kd.R_alloc | apply Kd.R_drewN | apply Kd.R_drew)); exact bh.out))) (below_size (by repeat (first | (with_reducible first | exact HB.out | apply below_alloc | apply pw_below_drewN | apply below_drew1 | refine below_set ?_ al.out | refine below_set ?_ am.out | refine below_set ?_ an.out | refine below_set ?_ bj.out) | exact HB.out)))); have n5_ := Aside0.mk (blk_below (g := ak) (by (with_reducible repeat (first | refine blk_drewN ?_ _ | refine blk_drew ?_ | refine blk_alloc ?_ _)); exact ae.out) hb); have n6_ := Aside0.mk (blk_below (g := ad) (by (with_reducible repeat (first | refine blk_drewN ?_ _ | refine blk_drew ?_ | refine blk_alloc ?_ _)); exact aa.out) hb); have n7_ := Aside0.mk (blk_below (g := ag) (by (with_reducible repeat (first | refine blk_drewN ?_ _ | refine blk_drew ?_ | refine blk_alloc ?_ _)); exact af.out) hb); have n8_ := Aside0.mk (blk_below (g := ac) (by (with_reducible repeat (first | refine blk_drewN ?_ _ | refine blk_drew ?_ | refine blk_alloc ?_ _)); exact ab.out) hb); have n9_ := Aside0.mk (below_step (by repeat (first | (with_reducible first | exact HB.out | apply below_alloc | apply pw_below_drewN | apply below_drew1 | refine below_set ?_ al.out | refine below_set ?_ am.out | refine below_set ?_ an.out | refine below_set ?_ bj.out) | exact HB.out)) hb); clear HO_371003; clear HO_371004; clear HO_371006; clear bh; clear ae; clear aa; clear af; clear ab; clear HB; have HO_371003 := n0_; have HO_371004 := n1_; have HO_371006 := n2_; have bh := n3_; have b9 := n4_; have ae := n5_; have aa := n6_; have af := n7_; have ab := n8_; have HB := n9_; clear n0_ n1_ n2_ n3_ n4_ n5_ n6_ n7_ n8_ n9_; (try clear hb); (try clear dh); (try clear hk); (try clear hi); (try clear ho0); have hnb133 := NB354_352.out; have hnc133 := NB352_354.out; have hcz134_0 : w132.cell? ⟨ag, 0, none⟩ = some (.int .i64 0) := (blk_cell af.out 0).trans rfl; have hcz134_1 : w132.cell? ⟨ag, 1, none⟩ = some (.int .i64 0) := (blk_cell af.out 1).trans rfl; have hcz134_2 : w132.cell? ⟨ag, 2, none⟩ = some (.int .i64 0) := (blk_cell af.out 2).trans rfl; have hcz134_3 : w132.cell? ⟨ag, 3, none⟩ = some (.slice none 0 0) := (blk_cell af.out 3).trans rfl; have hcz134_4 : w132.cell? ⟨ag, 4, none⟩ = some (.slice none 0 0) := (blk_cell af.out 4).trans rfl; have hcz134_5 : w132.cell? ⟨ag, 5, none⟩ = some (.int .i64 0) := (blk_cell af.out 5).trans rfl; have hcz134_6 : w132.cell? ⟨ag, 6, none⟩ = some (.slice none 0 0) := (blk_cell af.out 6).trans rfl; have hfz134_0 := blk_frozen af.out 0; have hfz134_1 := blk_frozen af.out 1; have hfz134_2 := blk_frozen af.out 2; have hfz134_3 := blk_frozen af.out 3; have hfz134_4 := blk_frozen af.out 4; have hfz134_5 := blk_frozen af.out 5; have hfz134_6 := blk_frozen af.out 6))
              refine bodyPost_ret (results_ct rfl _ _ ag 30 #[.int .i64 0, .int .i64 0, .int .i64 0, .slice none 0 0, .slice none 0 0, .int .i64 0, .slice none 0 0] (0, 0) _ rfl (by (with_reducible repeat (first | refine blk_drewN ?_ _ | refine blk_drew ?_ | refine blk_alloc ?_ _)); refine blk_put (cs := #[.int .i64 0, .int .i64 0, .int .i64 0, .slice none 0 0, .slice none 0 0, .int .i64 0, .slice none 0 0]) ?_ 6 _ rfl; (with_reducible repeat (first | refine blk_drewN ?_ _ | refine blk_drew ?_ | refine blk_alloc ?_ _)); refine blk_put (cs := #[.int .i64 0, .int .i64 0, .int .i64 0, .slice none 0 0, .slice none 0 0, .int .i64 0, .slice none 0 0]) ?_ 5 _ rfl; (with_reducible repeat (first | refine blk_drewN ?_ _ | refine blk_drew ?_ | refine blk_alloc ?_ _)); refine blk_put (cs := #[.int .i64 0, .int .i64 0, .int .i64 0, .slice none 0 0, .slice none 0 0, .int .i64 0, .slice none 0 0]) ?_ 4 _ rfl; (with_reducible repeat (first | refine blk_drewN ?_ _ | refine blk_drew ?_ | refine blk_alloc ?_ _)); refine blk_put (cs := #[.int .i64 0, .int .i64 0, .int .i64 0, .slice none 0 0, .slice none 0 0, .int .i64 0, .slice none 0 0]) ?_ 3 _ rfl; (with_reducible repeat (first | refine blk_drewN ?_ _ | refine blk_drew ?_ | refine blk_alloc ?_ _)); refine blk_put (cs := #[.int .i64 0, .int .i64 0, .int .i64 0, .slice none 0 0, .slice none 0 0, .int .i64 0, .slice none 0 0]) ?_ 2 _ rfl; (with_reducible repeat (first | refine blk_drewN ?_ _ | refine blk_drew ?_ | refine blk_alloc ?_ _)); refine blk_put (cs := #[.int .i64 0, .int .i64 0, .int .i64 0, .slice none 0 0, .slice none 0 0, .int .i64 0, .slice none 0 0]) ?_ 1 _ rfl; (with_reducible repeat (first | refine blk_drewN ?_ _ | refine blk_drew ?_ | refine blk_alloc ?_ _)); refine blk_put (cs := #[.int .i64 0, .int .i64 0, .int .i64 0, .slice none 0 0, .slice none 0 0, .int .i64 0, .slice none 0 0]) ?_ 0 _ rfl; (with_reducible repeat (first | refine blk_drewN ?_ _ | refine blk_drew ?_ | refine blk_alloc ?_ _)); exact af.out) Try.underlying30 rfl (by kernel_rfl)) rfl ?_
              exact ⟨_, _, _, by first | rfl | (simp [errW_none, errW_some] <;> rfl) | (simp [*, errW_none, errW_some] <;> rfl), by first | exact Kd.R_nil _ _ _ _ _ | exact Kd.N_nil _ _ _ _ _ | exact Kd.V_nil _ _ _ _ _ | exact Kd.Q_nil _ _ _ _ _ | exact Kd.S_nil _ _ _ _ _, by first | exact Kd.R_nil _ _ _ _ _ | exact Kd.N_nil _ _ _ _ _ | exact Kd.V_nil _ _ _ _ _ | exact Kd.Q_nil _ _ _ _ _ | exact Kd.S_nil _ _ _ _ _, by first | exact Kd.R_nil _ _ _ _ _ | exact Kd.N_nil _ _ _ _ _ | exact Kd.V_nil _ _ _ _ _ | exact Kd.Q_nil _ _ _ _ _ | exact Kd.S_nil _ _ _ _ _, by repeat (first | (with_reducible first | exact HB.out | apply below_alloc | apply pw_below_drewN | apply below_drew1 | refine below_set ?_ al.out | refine below_set ?_ am.out | refine below_set ?_ an.out | refine below_set ?_ bj.out) | exact HB.out)⟩

end Go.Proofs.Ytnnlbofmlfafhaa.P

end
section
namespace Go.Proofs.Ytnnlbofmlfafhaa.P
open Go.RowKit Go.Proofs.YtnnlbofmlfafhaaW.PrintWords Go.Proofs.YtnnlbofmlfafhaaW.PrintLast Go.Proofs.YtnnlbofmlfafhaaW.PrintMore
attribute [local go_sem] max2_int min2_int max_two min_two max_three min_three max_four min_four   -- for this text's walks alone
set_option linter.unusedVariables false
set_option linter.unusedSimpArgs false

mutual
def whirligiglaw09_spoil.l0 : Nat → Int → Int → Int → Int → List Int → List (S63) → Int → List Int → Option (List Int × (List (S63)) × List Int)
  | 0, _, _, _, _, _, _, _, _ => none
  | k + 1, x2, x470000, x470001, x470002, x470003, x470004, x470005, x470006 => if x2 < (x470003.length : Int) then (if 0 ≤ x2 then (whirligiglaw09_spoil.l0 k (wrap64 (x2 + 1)) x470000 x470001 x470002 (x470003.set (x2 : Int).toNat 7) x470004 x470005 x470006) else (none)) else (whirligiglaw09_spoil.l1 k 0 x470000 x470001 x470002 x470003 x470004 x470005 x470006)
def whirligiglaw09_spoil.l1 : Nat → Int → Int → Int → Int → List Int → List (S63) → Int → List Int → Option (List Int × (List (S63)) × List Int)
  | 0, _, _, _, _, _, _, _, _ => none
  | k + 1, x3, x470000, x470001, x470002, x470003, x470004, x470005, x470006 => if x3 < (x470004.length : Int) then (if 0 ≤ x3 then (whirligiglaw09_spoil.l1 k (wrap64 (x3 + 1)) x470000 x470001 x470002 x470003 (x470004.set (x3 : Int).toNat (⟨7, 7⟩ : S63)) x470005 x470006) else (none)) else (whirligiglaw09_spoil.l2 k 0 x470000 x470001 x470002 x470003 x470004 x470005 x470006)
def whirligiglaw09_spoil.l2 : Nat → Int → Int → Int → Int → List Int → List (S63) → Int → List Int → Option (List Int × (List (S63)) × List Int)
  | 0, _, _, _, _, _, _, _, _ => none
  | k + 1, x4, x470000, x470001, x470002, x470003, x470004, x470005, x470006 => if x4 < (x470006.length : Int) then (if 0 ≤ x4 then (whirligiglaw09_spoil.l2 k (wrap64 (x4 + 1)) x470000 x470001 x470002 x470003 x470004 x470005 (x470006.set (x4 : Int).toNat 7)) else (none)) else (some (x470003, x470004, x470006))
end
def whirligiglaw09_spoil.f (k : Nat) (a0_0 : Int) (a0_1 : Int) (a0_2 : Int) (l0_3 : List Int) (l0_4 : List (S63)) (a0_5 : Int) (l0_6 : List Int) : Option (List Int × (List (S63)) × List Int) := whirligiglaw09_spoil.l0 k 0 a0_0 a0_1 a0_2 l0_3 l0_4 a0_5 l0_6
set_option maxHeartbeats 8000000 in
set_option maxRecDepth 100000 in
theorem whirligiglaw09_spoil.calls (k : Nat) (ac : Int) (ad : Int) (ae : Int) (P0_3_ : Nat → Prop) (u9000_ : Value) (al : List Int) (P0_4_ : Nat → Prop) (u9001_ : Value) (ag : List (S63)) (af : Int) (P0_6_ : Nat → Prop) (u9002_ : Value) (am : List Int) (r1 : List Int) (r2 : List (S63)) (r3 : List Int) (w0 w : World) (hB : Below w0.heap.size w0 w) (ho0_3 : Kd.R (Kd.int .i64) 3 w w0.heap.size P0_3_ u9000_ al) (hp0_3_0_6 : ∀ k_, P0_3_ k_ → ¬ P0_6_ k_) (ho0_4 : Kd.R k63 63 w w0.heap.size P0_4_ u9001_ ag) (ho0_6 : Kd.R (Kd.int .i64) 3 w w0.heap.size P0_6_ u9002_ am) (hp0_6_0_3 : ∀ k_, P0_6_ k_ → ¬ P0_3_ k_) (h : whirligiglaw09_spoil.f k ac ad ae al ag af am = some (r1, r2, r3)) :
  Calls Try.prog 26 #[.agg #[.int .i64 ac, .int .i64 ad, .int .i64 ae, u9000_, u9001_, .int .i64 af, u9002_]] w fun e w' => e = .returned (.tuple #[]) ∧ Kd.R (Kd.int .i64) 3 w' w0.heap.size (fun k_ => ((P0_3_ k_ ∨ P0_4_ k_ ∨ P0_6_ k_) ∨ w.heap.size ≤ k_)) u9000_ r1 ∧ Kd.R k63 63 w' w0.heap.size (fun k_ => ((P0_3_ k_ ∨ P0_4_ k_ ∨ P0_6_ k_) ∨ w.heap.size ≤ k_)) u9001_ r2 ∧ Kd.R (Kd.int .i64) 3 w' w0.heap.size (fun k_ => ((P0_3_ k_ ∨ P0_4_ k_ ∨ P0_6_ k_) ∨ w.heap.size ≤ k_)) u9002_ r3 ∧ Below w0.heap.size w0 w' ∧ Kept w w' (fun k_ => P0_3_ k_ ∨ P0_4_ k_ ∨ P0_6_ k_) := by
 have hu30 := Try.underlying30
 have hu63 := Try.underlying63
 have HO0_3 := Aside0.mk (show Kd.R (Kd.int .i64) 3 w w0.heap.size (fun k_ => ((P0_3_ k_ ∨ P0_4_ k_ ∨ P0_6_ k_) ∨ w.heap.size ≤ k_) ∧ some k_ ≠ (u9002_ : Value).ownBlock) u9000_ al from Kd.R_mono ho0_3 (fun k_ hk => ⟨(.inl (.inl hk)), fun e_ => hp0_3_0_6 k_ hk (ho0_6.1 k_ e_.symm)⟩))
 have HO0_4 := Aside0.mk (show Kd.R k63 63 w w0.heap.size (fun k_ => ((P0_3_ k_ ∨ P0_4_ k_ ∨ P0_6_ k_) ∨ w.heap.size ≤ k_)) u9001_ ag from Kd.R_mono ho0_4 (fun k_ hk => (.inl (.inr (.inl hk)))))
 have HO0_6 := Aside0.mk (show Kd.R (Kd.int .i64) 3 w w0.heap.size (fun k_ => ((P0_3_ k_ ∨ P0_4_ k_ ∨ P0_6_ k_) ∨ w.heap.size ≤ k_) ∧ some k_ ≠ (u9000_ : Value).ownBlock) u9002_ am from Kd.R_mono ho0_6 (fun k_ hk => ⟨(.inl (.inr (.inr hk))), fun e_ => hp0_6_0_3 k_ hk (ho0_3.1 k_ e_.symm)⟩))
 have HK := Aside0.mk (Kept.refl w (fun k_ => P0_3_ k_ ∨ P0_4_ k_ ∨ P0_6_ k_))
 have HW0 := Aside0.mk hB.size
 have HB := Aside0.mk hB
 clear hB
 have H : (whirligiglaw09_spoil.l0 k 0 ac ad ae al ag af am) = some (r1, r2, r3) := h
 clear h
 have H' := Aside0.mk H
 clear H
 obtain ⟨an, ai, eo2⟩ := Kd.R_slice HO0_3.out
 subst eo2
 obtain ⟨ap, ak, eo3⟩ := Kd.R_slice HO0_4.out
 subst eo3
 obtain ⟨ao, aj, eo4⟩ := Kd.R_slice HO0_6.out
 subst eo4
 go_enter Try.func26, Try.ntmps26
 go_wp2_with (first | ((with_reducible refine gate_dst (N := 1) rfl ?_); refine box_event ?hg (N := 1) ?hd (cs := #[.int .i64 ac, .int .i64 ad, .int .i64 ae, .slice an al.length ai, .slice ap ag.length ak, .int .i64 af, .slice ao am.length aj]) (t := 30) ?hr ?_; (case hd => rfl); (case hg => rfl); (case hr => first | (go_simp; done) | (go_simp; rfl)); intro ab hg w5 hbox hb; have n0_ := Aside0.mk (Kd.R_below (by (with_reducible repeat (first | apply Kd.R_alloc | apply Kd.R_drewN | apply Kd.R_drew)); exact HO0_3.out) hb); have n1_ := Aside0.mk (Kd.R_below (by (with_reducible repeat (first | apply Kd.R_alloc | apply Kd.R_drewN | apply Kd.R_drew)); exact HO0_4.out) hb); have n2_ := Aside0.mk (Kd.R_below (by (with_reducible repeat (first | apply Kd.R_alloc | apply Kd.R_drewN | apply Kd.R_drew)); exact HO0_6.out) hb); have n3_ := Aside0.mk (Kept.below (S := (fun k_ => P0_3_ k_ ∨ P0_4_ k_ ∨ P0_6_ k_)) (by repeat (first | (with_reducible first | exact HK.out | apply Kept.alloc | apply Kept.drewN | apply Kept.drew) | exact HK.out)) hb); have n4_ := Aside0.mk (below_step (by repeat (first | (with_reducible first | exact HB.out | apply below_alloc | apply pw_below_drewN | apply below_drew1) | exact HB.out)) hb); have n5_ := Aside0.mk (hbox); have n6_ := Aside0.mk ((by rw [hg]; exact (by first | exact HK.out.1 | exact (show Kept w _ (fun k_ => P0_3_ k_ ∨ P0_4_ k_ ∨ P0_6_ k_) from by repeat (first | (with_reducible first | exact HK.out | apply Kept.alloc | apply Kept.drewN | apply Kept.drew) | exact HK.out)).1) : w.heap.size ≤ ab)); have n7_ := Aside0.mk ((by rw [hg]; exact (below_size (by repeat (first | (with_reducible first | exact HB.out | apply below_alloc | apply pw_below_drewN | apply below_drew1) | exact HB.out))) : w0.heap.size ≤ ab)); clear HO0_3; clear HO0_4; clear HO0_6; clear HK; clear HB; have HO0_3 := n0_; have HO0_4 := n1_; have HO0_6 := n2_; have HK := n3_; have HB := n4_; have aa := n5_; have ah := n6_; have GE469 := n7_; clear n0_ n1_ n2_ n3_ n4_ n5_ n6_ n7_; clear hb hbox hg))
 go_loopg [2] k (fun kq v2 w' => ∃ (x2_1 : Int) (x470003_1 : List Int) (x470006_1 : List Int), v2 = .int .i64 x2_1 ∧ Aside0 (whirligiglaw09_spoil.l0 kq x2_1 ac ad ae x470003_1 ag af x470006_1 = some (r1, r2, r3)) ∧ Aside0 (kq ≤ k) ∧ Aside0 (Kd.R (Kd.int .i64) 3 w' w0.heap.size (fun k_ => ((P0_3_ k_ ∨ P0_4_ k_ ∨ P0_6_ k_) ∨ w.heap.size ≤ k_) ∧ some k_ ≠ ((.slice ao am.length aj) : Value).ownBlock) (.slice an al.length ai) x470003_1) ∧ Aside0 (Kd.R k63 63 w' w0.heap.size (fun k_ => ((P0_3_ k_ ∨ P0_4_ k_ ∨ P0_6_ k_) ∨ w.heap.size ≤ k_)) (.slice ap ag.length ak) ag) ∧ Aside0 (Kd.R (Kd.int .i64) 3 w' w0.heap.size (fun k_ => ((P0_3_ k_ ∨ P0_4_ k_ ∨ P0_6_ k_) ∨ w.heap.size ≤ k_) ∧ some k_ ≠ ((.slice an al.length ai) : Value).ownBlock) (.slice ao am.length aj) x470006_1) ∧ Aside0 (w'.heap[ab]? = some (.cells #[.int .i64 ac, .int .i64 ad, .int .i64 ae, (.slice an al.length ai), (.slice ap ag.length ak), .int .i64 af, (.slice ao am.length aj)] 30 (0, 0))) ∧ Aside0 (Kept w w' (fun k_ => P0_3_ k_ ∨ P0_4_ k_ ∨ P0_6_ k_)) ∧ Aside0 (Below w0.heap.size w0 w'))
 case atStart => exact ⟨(0), (al), (am), (by first | rfl | (simp; done) | (simp [*]; done)), H', ⟨Nat.le_refl _⟩, ⟨by (with_reducible repeat (first | apply Kd.R_alloc | apply Kd.R_drewN | apply Kd.R_drew)); exact HO0_3.out⟩, ⟨by (with_reducible repeat (first | apply Kd.R_alloc | apply Kd.R_drewN | apply Kd.R_drew)); exact HO0_4.out⟩, ⟨by (with_reducible repeat (first | apply Kd.R_alloc | apply Kd.R_drewN | apply Kd.R_drew)); exact HO0_6.out⟩, ⟨by (with_reducible repeat (first | refine blk_drewN ?_ _ | refine blk_drew ?_ | refine blk_alloc ?_ _)); exact aa.out⟩, ⟨by repeat (first | (with_reducible first | exact HK.out | apply Kept.alloc | apply Kept.drewN | apply Kept.drew | refine Kept.setCell ?_ (.inr ah.out) _) | exact HK.out)⟩, ⟨by repeat (first | (with_reducible first | exact HB.out | apply below_alloc | apply pw_below_drewN | apply below_drew1 | refine below_set ?_ GE469.out) | exact HB.out)⟩⟩
 case round =>
  clear H'
  try clear c2
  try clear p2
  obtain ⟨x2_1, x470003_1, x470006_1, rfl, HA, HK1, HO_470003, HO_470004, HO_470006, aa, HK, HB⟩ := hrel
  have hl470003_1 := (Kd.R_reads' HO_470003.out).1
  rw [hl470003_1] at HO_470003
  (try simp only [hl470003_1])
  (try simp only [hl470003_1] at aa)
  (try simp only [hl470003_1] at HO_470004)
  (try simp only [hl470003_1] at HO_470006)
  have hl470006_1 := (Kd.R_reads' HO_470006.out).1
  rw [hl470006_1] at HO_470006
  (try simp only [hl470006_1])
  (try simp only [hl470006_1] at aa)
  (try simp only [hl470006_1] at HO_470003)
  (try simp only [hl470006_1] at HO_470004)
  cases gk with
  | zero => exact absurd HA.out (by simp [whirligiglaw09_spoil.l0])
  | succ k1 =>
   have H := HA.out
   clear HA
   simp only [whirligiglaw09_spoil.l0] at H
   by_cases c6 : x2_1 < (x470003_1.length : Int)
   ·rw [if_pos c6] at H
    have c6b0 : decide (x2_1 < (x470003_1.length : Int)) = true := decide_eq_true c6
    clear c6
    by_cases c7 : 0 ≤ x2_1
    ·rw [if_pos c7] at H
     have c7b0 : decide (0 ≤ x2_1) = true := decide_eq_true c7
     clear c7
     obtain ⟨y470, hy470⟩ : ∃ y_ : List Int, y_ = (x470003_1.set (x2_1 : Int).toNat 7) := ⟨_, rfl⟩
     replace H : (whirligiglaw09_spoil.l0 k1 (wrap64 (x2_1 + 1)) ac ad ae y470 ag af x470006_1) = some (r1, r2, r3) := by first | (rw [hy470]; with_reducible exact H) | (have H2_ := (Option.bind_some _ _).symm.trans H; rw [hy470]; with_reducible exact H2_) | (have H2_ := (Option.bind_some _ _).symm.trans H; with_reducible exact H2_) | with_reducible exact H | (rw [hy470]; exact H) | exact H
     have Ny470 := Aside0.mk hy470
     clear hy470
     have H' := Aside0.mk H
     clear H
     have hcz9_0 : wr.cell? ⟨ab, 0, none⟩ = some (.int .i64 ac) := (blk_cell aa.out 0).trans rfl
     have hcz9_1 : wr.cell? ⟨ab, 1, none⟩ = some (.int .i64 ad) := (blk_cell aa.out 1).trans rfl
     have hcz9_2 : wr.cell? ⟨ab, 2, none⟩ = some (.int .i64 ae) := (blk_cell aa.out 2).trans rfl
     have hcz9_3 : wr.cell? ⟨ab, 3, none⟩ = some (.slice an x470003_1.length ai) := (blk_cell aa.out 3).trans rfl
     have hcz9_4 : wr.cell? ⟨ab, 4, none⟩ = some (.slice ap ag.length ak) := (blk_cell aa.out 4).trans rfl
     have hcz9_5 : wr.cell? ⟨ab, 5, none⟩ = some (.int .i64 af) := (blk_cell aa.out 5).trans rfl
     have hcz9_6 : wr.cell? ⟨ab, 6, none⟩ = some (.slice ao x470006_1.length aj) := (blk_cell aa.out 6).trans rfl
     have hfz9_0 := blk_frozen aa.out 0
     have hfz9_1 := blk_frozen aa.out 1
     have hfz9_2 := blk_frozen aa.out 2
     have hfz9_3 := blk_frozen aa.out 3
     have hfz9_4 := blk_frozen aa.out 4
     have hfz9_5 := blk_frozen aa.out 5
     have hfz9_6 := blk_frozen aa.out 6
     have p8 : 0 ≤ (x2_1 : Int) := of_decide_eq_true (by first | (with_reducible assumption) | assumption)
     have q8 : (x2_1 : Int) < ((x470003_1.length : Int) : Int) := of_decide_eq_true (by first | (with_reducible assumption) | assumption)
     obtain ⟨go8, co8, eo8, gb8, gl8, cl8, HG8⟩ := Kd.R_form HO_470003.out (by omega)
     (first | cases eo8 | (injection eo8 with ea_ en_ ec_; (first | subst ea_ | (injection ea_ with ea_; subst ea_)); subst ec_; clear en_))
     have GB8 := Aside0.mk gb8
     have GG8 := Aside0.mk HG8
     clear gb8 gl8 HG8
     have HMgo8 := Aside0.mk (show ((P0_3_ go8 ∨ P0_4_ go8 ∨ P0_6_ go8) ∨ w.heap.size ≤ go8) from (HO_470003.out.1 _ rfl).1)
     obtain ⟨hx8_0, hf8_0⟩ := Kd.R_celln 0 HO_470003.out (x2_1 : Int) p8 q8
     replace p8 := eq_true p8
     replace q8 := eq_true q8
     have HP10 := Kd.R_putg HO_470003.out (x2_1 : Int) 7
     go_wp2_with (first | ((with_reducible refine gate_store (t := 3) (p := 15) rfl ?_); refine store_event (t := 3) (p := 15) (v := ?vo_w11) (w1 := (wr.setCell ⟨go8, (x2_1 : Int).toNat, none⟩ (.int .i64 7))) ?hg ?ho ?hn ?hr ?_; (case ho => rfl); (case hg => rfl); (case hn => rfl); (case hr => first | (go_simp; done) | (go_simp; rfl)); intro w11 hw; have hg : wr.grownBy w11 (some go8) := (by rw [hw]; exact HP10.2); have hp_ : Kd.R (Kd.int .i64) 3 w11 w0.heap.size (fun k_ => ((P0_3_ k_ ∨ P0_4_ k_ ∨ P0_6_ k_) ∨ w.heap.size ≤ k_) ∧ some k_ ≠ (.slice ao x470006_1.length aj : Value).ownBlock) (.slice (some ⟨go8, 0, none⟩) x470003_1.length ai) y470 := (by rw [hw, Ny470.out]; exact HP10.1); clear HP10; have n0_ := Aside0.mk (hp_); have n1_ := Aside0.mk (Kd.R_over' (v := (.slice (some ⟨go8, 0, none⟩) x470003_1.length ai)) (by (with_reducible repeat (first | apply Kd.R_alloc | apply Kd.R_drewN | apply Kd.R_drew)); exact HO_470004.out) (Kd.R_typed HO_470003.out) (by decide) hg); have n2_ := Aside0.mk (Kd.R_after (v := (.slice (some ⟨go8, 0, none⟩) x470003_1.length ai)) (v1 := (.slice (some ⟨go8, 0, none⟩) x470003_1.length ai)) (ok := (fun k_ => ((P0_3_ k_ ∨ P0_4_ k_ ∨ P0_6_ k_) ∨ w.heap.size ≤ k_))) (by (with_reducible repeat (first | apply Kd.R_alloc | apply Kd.R_drewN | apply Kd.R_drew)); exact HO_470006.out) hg (.inl rfl)); have n3_ := Aside0.mk (blk_grown (g := ab) (o := .cells #[.int .i64 ac, .int .i64 ad, .int .i64 ae, .slice (some ⟨go8, 0, none⟩) x470003_1.length ai, .slice ap ag.length ak, .int .i64 af, .slice ao x470006_1.length aj] 30 (0, 0)) (by (with_reducible repeat (first | refine blk_drewN ?_ _ | refine blk_drew ?_ | refine blk_alloc ?_ _)); exact aa.out) hg (Kd.R_ne HO_470003.out aa.out (by decide))); have n4_ := Aside0.mk ((by rw [hw]; exact below_set (HB.out) GB8.out : Below w0.heap.size w0 w11)); have n5_ := Aside0.mk (Kept.of_grown (S := (fun k_ => P0_3_ k_ ∨ P0_4_ k_ ∨ P0_6_ k_)) hg (by repeat (first | (with_reducible first | exact HK.out | apply Kept.alloc | apply Kept.drewN | apply Kept.drew | refine Kept.setCell ?_ (.inr ah.out) _) | exact HK.out)) (fun k_ e_ => (HO_470003.out.1 k_ e_).1)); clear HO_470003; clear HO_470004; clear HO_470006; clear aa; clear HB; clear HK; have HO_470003 := n0_; have HO_470004 := n1_; have HO_470006 := n2_; have aa := n3_; have HB := n4_; have HK := n5_; clear n0_ n1_ n2_ n3_ n4_ n5_; clear hg hw hp_))
     (try simp only [← hl470003_1, ← hl470006_1])
     go_roundg k1
     case measure => have := HK1.out; omega
     case rel => exact ⟨(wrap64 (x2_1 + 1)), (y470), (x470006_1), (by first | rfl | (simp; done) | (simp [*]; done)), H', ⟨by have := HK1.out; omega⟩, ⟨by (try simp only [hl470003_1]); (try simp only [hl470006_1]); (with_reducible repeat (first | apply Kd.R_alloc | apply Kd.R_drewN | apply Kd.R_drew)); exact HO_470003.out⟩, ⟨by (try simp only [hl470003_1]); (try simp only [hl470006_1]); (with_reducible repeat (first | apply Kd.R_alloc | apply Kd.R_drewN | apply Kd.R_drew)); exact HO_470004.out⟩, ⟨by (try simp only [hl470003_1]); (try simp only [hl470006_1]); (with_reducible repeat (first | apply Kd.R_alloc | apply Kd.R_drewN | apply Kd.R_drew)); exact HO_470006.out⟩, ⟨by (try simp only [hl470003_1]); (try simp only [hl470006_1]); (with_reducible repeat (first | refine blk_drewN ?_ _ | refine blk_drew ?_ | refine blk_alloc ?_ _)); exact aa.out⟩, ⟨by repeat (first | (with_reducible first | exact HK.out | apply Kept.alloc | apply Kept.drewN | apply Kept.drew | refine Kept.setCell ?_ (.inr ah.out) _) | exact HK.out)⟩, ⟨by repeat (first | (with_reducible first | exact HB.out | apply below_alloc | apply pw_below_drewN | apply below_drew1 | refine below_set ?_ GE469.out) | exact HB.out)⟩⟩
    ·rw [if_neg c7] at H
     exact absurd H (by simp)
   ·rw [if_neg c6] at H
    have c6b0 : decide (x2_1 < (x470003_1.length : Int)) = false := decide_eq_false c6
    clear c6
    have H' := Aside0.mk H
    clear H
    have hcz12_0 : wr.cell? ⟨ab, 0, none⟩ = some (.int .i64 ac) := (blk_cell aa.out 0).trans rfl
    have hcz12_1 : wr.cell? ⟨ab, 1, none⟩ = some (.int .i64 ad) := (blk_cell aa.out 1).trans rfl
    have hcz12_2 : wr.cell? ⟨ab, 2, none⟩ = some (.int .i64 ae) := (blk_cell aa.out 2).trans rfl
    have hcz12_3 : wr.cell? ⟨ab, 3, none⟩ = some (.slice an x470003_1.length ai) := (blk_cell aa.out 3).trans rfl
    have hcz12_4 : wr.cell? ⟨ab, 4, none⟩ = some (.slice ap ag.length ak) := (blk_cell aa.out 4).trans rfl
    have hcz12_5 : wr.cell? ⟨ab, 5, none⟩ = some (.int .i64 af) := (blk_cell aa.out 5).trans rfl
    have hcz12_6 : wr.cell? ⟨ab, 6, none⟩ = some (.slice ao x470006_1.length aj) := (blk_cell aa.out 6).trans rfl
    have hfz12_0 := blk_frozen aa.out 0
    have hfz12_1 := blk_frozen aa.out 1
    have hfz12_2 := blk_frozen aa.out 2
    have hfz12_3 := blk_frozen aa.out 3
    have hfz12_4 := blk_frozen aa.out 4
    have hfz12_5 := blk_frozen aa.out 5
    have hfz12_6 := blk_frozen aa.out 6
    go_wp2
    go_loopg [3] k1 (fun kq v3 w' => ∃ (x3_2 : Int) (x470004_2 : List (S63)), v3 = .int .i64 x3_2 ∧ Aside0 (whirligiglaw09_spoil.l1 kq x3_2 ac ad ae x470003_1 x470004_2 af x470006_1 = some (r1, r2, r3)) ∧ Aside0 (kq ≤ k1) ∧ Aside0 (Kd.R (Kd.int .i64) 3 w' w0.heap.size (fun k_ => ((P0_3_ k_ ∨ P0_4_ k_ ∨ P0_6_ k_) ∨ w.heap.size ≤ k_) ∧ some k_ ≠ ((.slice ao x470006_1.length aj) : Value).ownBlock) (.slice an x470003_1.length ai) x470003_1) ∧ Aside0 (Kd.R k63 63 w' w0.heap.size (fun k_ => ((P0_3_ k_ ∨ P0_4_ k_ ∨ P0_6_ k_) ∨ w.heap.size ≤ k_)) (.slice ap ag.length ak) x470004_2) ∧ Aside0 (Kd.R (Kd.int .i64) 3 w' w0.heap.size (fun k_ => ((P0_3_ k_ ∨ P0_4_ k_ ∨ P0_6_ k_) ∨ w.heap.size ≤ k_) ∧ some k_ ≠ ((.slice an x470003_1.length ai) : Value).ownBlock) (.slice ao x470006_1.length aj) x470006_1) ∧ Aside0 (w'.heap[ab]? = some (.cells #[.int .i64 ac, .int .i64 ad, .int .i64 ae, (.slice an x470003_1.length ai), (.slice ap ag.length ak), .int .i64 af, (.slice ao x470006_1.length aj)] 30 (0, 0))) ∧ Aside0 (Kept w w' (fun k_ => P0_3_ k_ ∨ P0_4_ k_ ∨ P0_6_ k_)) ∧ Aside0 (Below w0.heap.size w0 w'))
    case atStart => exact ⟨(0), (ag), (by first | rfl | (simp; done) | (simp [*]; done)), H', ⟨Nat.le_refl _⟩, ⟨by (try simp only [hl470003_1]); (try simp only [hl470006_1]); (with_reducible repeat (first | apply Kd.R_alloc | apply Kd.R_drewN | apply Kd.R_drew)); exact HO_470003.out⟩, ⟨by (try simp only [hl470003_1]); (try simp only [hl470006_1]); (with_reducible repeat (first | apply Kd.R_alloc | apply Kd.R_drewN | apply Kd.R_drew)); exact HO_470004.out⟩, ⟨by (try simp only [hl470003_1]); (try simp only [hl470006_1]); (with_reducible repeat (first | apply Kd.R_alloc | apply Kd.R_drewN | apply Kd.R_drew)); exact HO_470006.out⟩, ⟨by (try simp only [hl470003_1]); (try simp only [hl470006_1]); (with_reducible repeat (first | refine blk_drewN ?_ _ | refine blk_drew ?_ | refine blk_alloc ?_ _)); exact aa.out⟩, ⟨by repeat (first | (with_reducible first | exact HK.out | apply Kept.alloc | apply Kept.drewN | apply Kept.drew | refine Kept.setCell ?_ (.inr ah.out) _) | exact HK.out)⟩, ⟨by repeat (first | (with_reducible first | exact HB.out | apply below_alloc | apply pw_below_drewN | apply below_drew1 | refine below_set ?_ GE469.out) | exact HB.out)⟩⟩
    case round =>
     clear H'
     try clear c2
     try clear p2
     try clear c6
     try clear c6b0
     try clear p6
     try clear c7
     try clear c7b0
     try clear p8
     try clear q8
     try clear hx8
     try clear hf8
     try clear hcz12_0
     try clear hcz12_1
     try clear hcz12_2
     try clear hcz12_3
     try clear hcz12_4
     try clear hcz12_5
     try clear hcz12_6
     try clear hcz9_0
     try clear hcz9_1
     try clear hcz9_2
     try clear hcz9_3
     try clear hcz9_4
     try clear hcz9_5
     try clear hcz9_6
     try clear hfz12_0
     try clear hfz12_1
     try clear hfz12_2
     try clear hfz12_3
     try clear hfz12_4
     try clear hfz12_5
     try clear hfz12_6
     try clear hfz9_0
     try clear hfz9_1
     try clear hfz9_2
     try clear hfz9_3
     try clear hfz9_4
     try clear hfz9_5
     try clear hfz9_6
     try clear hx8_0
     try clear p2
     try clear p8
     try clear q8
     obtain ⟨x3_2, x470004_2, rfl, HA, HK2, HO_470003, HO_470004, HO_470006, aa, HK, HB⟩ := hrel
     have hl470004_2 := (Kd.R_reads' HO_470004.out).1
     rw [hl470004_2] at HO_470004
     (try simp only [hl470004_2])
     (try simp only [hl470004_2] at aa)
     (try simp only [hl470004_2] at HO_470003)
     (try simp only [hl470004_2] at HO_470006)
     cases gk with
     | zero => exact absurd HA.out (by simp [whirligiglaw09_spoil.l1])
     | succ k2 =>
      have H := HA.out
      clear HA
      simp only [whirligiglaw09_spoil.l1] at H
      by_cases c13 : x3_2 < (x470004_2.length : Int)
      ·rw [if_pos c13] at H
       have c13b0 : decide (x3_2 < (x470004_2.length : Int)) = true := decide_eq_true c13
       clear c13
       by_cases c14 : 0 ≤ x3_2
       ·rw [if_pos c14] at H
        have c14b0 : decide (0 ≤ x3_2) = true := decide_eq_true c14
        clear c14
        obtain ⟨y471, hy471⟩ : ∃ y_ : List (S63), y_ = (x470004_2.set (x3_2 : Int).toNat (⟨7, 7⟩ : S63)) := ⟨_, rfl⟩
        replace H : (whirligiglaw09_spoil.l1 k2 (wrap64 (x3_2 + 1)) ac ad ae x470003_1 y471 af x470006_1) = some (r1, r2, r3) := by first | (rw [hy471]; with_reducible exact H) | (have H2_ := (Option.bind_some _ _).symm.trans H; rw [hy471]; with_reducible exact H2_) | (have H2_ := (Option.bind_some _ _).symm.trans H; with_reducible exact H2_) | with_reducible exact H | (rw [hy471]; exact H) | exact H
        have Ny471 := Aside0.mk hy471
        clear hy471
        have H' := Aside0.mk H
        clear H
        have hcz16_0 : wr.cell? ⟨ab, 0, none⟩ = some (.int .i64 ac) := (blk_cell aa.out 0).trans rfl
        have hcz16_1 : wr.cell? ⟨ab, 1, none⟩ = some (.int .i64 ad) := (blk_cell aa.out 1).trans rfl
        have hcz16_2 : wr.cell? ⟨ab, 2, none⟩ = some (.int .i64 ae) := (blk_cell aa.out 2).trans rfl
        have hcz16_3 : wr.cell? ⟨ab, 3, none⟩ = some (.slice an x470003_1.length ai) := (blk_cell aa.out 3).trans rfl
        have hcz16_4 : wr.cell? ⟨ab, 4, none⟩ = some (.slice ap x470004_2.length ak) := (blk_cell aa.out 4).trans rfl
        have hcz16_5 : wr.cell? ⟨ab, 5, none⟩ = some (.int .i64 af) := (blk_cell aa.out 5).trans rfl
        have hcz16_6 : wr.cell? ⟨ab, 6, none⟩ = some (.slice ao x470006_1.length aj) := (blk_cell aa.out 6).trans rfl
        have hfz16_0 := blk_frozen aa.out 0
        have hfz16_1 := blk_frozen aa.out 1
        have hfz16_2 := blk_frozen aa.out 2
        have hfz16_3 := blk_frozen aa.out 3
        have hfz16_4 := blk_frozen aa.out 4
        have hfz16_5 := blk_frozen aa.out 5
        have hfz16_6 := blk_frozen aa.out 6
        have p15 : 0 ≤ (x3_2 : Int) := of_decide_eq_true (by first | (with_reducible assumption) | assumption)
        have q15 : (x3_2 : Int) < ((x470004_2.length : Int) : Int) := of_decide_eq_true (by first | (with_reducible assumption) | assumption)
        obtain ⟨go15, co15, eo15, gb15, gl15, cl15, HG15⟩ := Kd.R_form HO_470004.out (by omega)
        (first | cases eo15 | (injection eo15 with ea_ en_ ec_; (first | subst ea_ | (injection ea_ with ea_; subst ea_)); subst ec_; clear en_))
        have GB15 := Aside0.mk gb15
        have GG15 := Aside0.mk HG15
        clear gb15 gl15 HG15
        have HMgo15 := Aside0.mk (show ((P0_3_ go15 ∨ P0_4_ go15 ∨ P0_6_ go15) ∨ w.heap.size ≤ go15) from (HO_470004.out.1 _ rfl))
        obtain ⟨ce15, hcl15, hM15, hcc15, hfr15⟩ := Kd.R_elem HO_470004.out z63 (x3_2 : Int) p15 q15
        obtain rfl := k63_openM hM15
        have hx15_0 : wr.cell? ⟨go15, (x3_2 : Int).toNat * 2, none⟩ = some (.int .i64 ((rd_T63 x470004_2 x3_2).f0)) := hcc15 0 _ rfl
        have hx15_1 : wr.cell? ⟨go15, (x3_2 : Int).toNat * 2 + 1, none⟩ = some (.int .i64 ((rd_T63 x470004_2 x3_2).f1)) := hcc15 1 _ rfl
        have hf15_0 : wr.frozen? ⟨go15, (x3_2 : Int).toNat * 2, none⟩ = false := hfr15 0
        have hf15_1 : wr.frozen? ⟨go15, (x3_2 : Int).toNat * 2 + 1, none⟩ = false := hfr15 1
        clear hcl15 hcc15 hfr15 hM15
        replace p15 := eq_true p15
        replace q15 := eq_true q15
        have HX17 := Aside0.mk (show Kd.R k63 63 wr w0.heap.size (fun k_ => ((P0_3_ k_ ∨ P0_4_ k_ ∨ P0_6_ k_) ∨ w.heap.size ≤ k_)) (.slice (some ⟨go15, 0, none⟩) x470004_2.length ak) x470004_2 from (by (with_reducible repeat (first | apply Kd.R_alloc | apply Kd.R_drewN | apply Kd.R_drew)); exact HO_470004.out))
        obtain ⟨ce17, hcl17, hM17, hcc17, hfr17⟩ := Kd.R_elem HX17.out z63 (x3_2 : Int) (of_decide_eq_true (by first | (with_reducible assumption) | assumption)) (by have h_ : (x3_2 : Int) < ((x470004_2.length : Int) : Int) := of_decide_eq_true (by first | (with_reducible assumption) | assumption); first | exact h_ | (have e_ := (Kd.R_reads' HO_470004.out).1; omega) | simpa using h_)
        obtain rfl := k63_openM hM17
        have HP17 := Kd.R_seg HX17.out (x3_2 : Int) (of_decide_eq_true (by first | (with_reducible assumption) | assumption)) (by have h_ : (x3_2 : Int) < ((x470004_2.length : Int) : Int) := of_decide_eq_true (by first | (with_reducible assumption) | assumption); first | exact h_ | (have e_ := (Kd.R_reads' HO_470004.out).1; omega) | simpa using h_) (seg := [.int .i64 7, .int .i64 7]) (j := 0) hcl17 hcc17 (show 2 ≤ 2 from by decide) (x' := (⟨7, 7⟩ : S63)) (k63_mkM _ _ _ (⟨7, 7⟩ : S63) ) (fun _ hk => hk)
        have hx17_0 := hcc17 0 _ rfl
        (try simp only [show (k63).sz = 2 from rfl, Nat.mul_one, Nat.add_zero] at hx17_0)
        have hf17_0 := hfr17 0
        (try simp only [show (k63).sz = 2 from rfl, Nat.mul_one, Nat.add_zero] at hf17_0)
        have hx17_1 := hcc17 1 _ rfl
        (try simp only [show (k63).sz = 2 from rfl, Nat.mul_one, Nat.add_zero] at hx17_1)
        have hf17_1 := hfr17 1
        (try simp only [show (k63).sz = 2 from rfl, Nat.mul_one, Nat.add_zero] at hf17_1)
        clear hcl17 hcc17 hfr17 hM17
        go_wp2_with (first | ((with_reducible refine gate_store (t := 63) (p := 27) rfl ?_); refine store_event (t := 63) (p := 27) (v := ?vo_w18) (w1 := ((wr.setCell ⟨go15, (x3_2 : Int).toNat * 2, none⟩ (.int .i64 7)).setCell ⟨go15, (x3_2 : Int).toNat * 2 + 1, none⟩ (.int .i64 7))) ?hg ?ho ?hn ?hr ?_; (case ho => rfl); (case hg => rfl); (case hn => rfl); (case hr => first | (go_simp; done) | (go_simp; rfl)); intro w18 hw; have hg : wr.grownBy w18 (some go15) := (by rw [hw]; exact HP17.2); have hp_ : Kd.R k63 63 w18 w0.heap.size (fun k_ => ((P0_3_ k_ ∨ P0_4_ k_ ∨ P0_6_ k_) ∨ w.heap.size ≤ k_)) (.slice (some ⟨go15, 0, none⟩) x470004_2.length ak) y471 := (by rw [hw, Ny471.out]; exact HP17.1); clear HP17; have n0_ := Aside0.mk (Kd.R_over' (v := (.slice (some ⟨go15, 0, none⟩) x470004_2.length ak)) (by (with_reducible repeat (first | apply Kd.R_alloc | apply Kd.R_drewN | apply Kd.R_drew)); exact HO_470003.out) (Kd.R_typed HO_470004.out) (by decide) hg); have n1_ := Aside0.mk (hp_); have n2_ := Aside0.mk (Kd.R_over' (v := (.slice (some ⟨go15, 0, none⟩) x470004_2.length ak)) (by (with_reducible repeat (first | apply Kd.R_alloc | apply Kd.R_drewN | apply Kd.R_drew)); exact HO_470006.out) (Kd.R_typed HO_470004.out) (by decide) hg); have n3_ := Aside0.mk (blk_grown (g := ab) (o := .cells #[.int .i64 ac, .int .i64 ad, .int .i64 ae, .slice an x470003_1.length ai, .slice (some ⟨go15, 0, none⟩) x470004_2.length ak, .int .i64 af, .slice ao x470006_1.length aj] 30 (0, 0)) (by (with_reducible repeat (first | refine blk_drewN ?_ _ | refine blk_drew ?_ | refine blk_alloc ?_ _)); exact aa.out) hg (Kd.R_ne HO_470004.out aa.out (by decide))); have n4_ := Aside0.mk ((by rw [hw]; exact below_set (below_set (HB.out) GB15.out) GB15.out : Below w0.heap.size w0 w18)); have n5_ := Aside0.mk (Kept.of_grown (S := (fun k_ => P0_3_ k_ ∨ P0_4_ k_ ∨ P0_6_ k_)) hg (by repeat (first | (with_reducible first | exact HK.out | apply Kept.alloc | apply Kept.drewN | apply Kept.drew | refine Kept.setCell ?_ (.inr ah.out) _) | exact HK.out)) (fun k_ e_ => (HO_470004.out.1 k_ e_))); clear HO_470003; clear HO_470004; clear HO_470006; clear aa; clear HB; clear HK; have HO_470003 := n0_; have HO_470004 := n1_; have HO_470006 := n2_; have aa := n3_; have HB := n4_; have HK := n5_; clear n0_ n1_ n2_ n3_ n4_ n5_; clear hg hw hp_))
        (try simp only [← hl470004_2])
        go_roundg k2
        case measure => have := HK1.out; have := HK2.out; omega
        case rel => exact ⟨(wrap64 (x3_2 + 1)), (y471), (by first | rfl | (simp; done) | (simp [*]; done)), H', ⟨by have := HK1.out; have := HK2.out; omega⟩, ⟨by (try simp only [hl470003_1]); (try simp only [hl470006_1]); (try simp only [hl470004_2]); (with_reducible repeat (first | apply Kd.R_alloc | apply Kd.R_drewN | apply Kd.R_drew)); exact HO_470003.out⟩, ⟨by (try simp only [hl470003_1]); (try simp only [hl470006_1]); (try simp only [hl470004_2]); (with_reducible repeat (first | apply Kd.R_alloc | apply Kd.R_drewN | apply Kd.R_drew)); exact HO_470004.out⟩, ⟨by (try simp only [hl470003_1]); (try simp only [hl470006_1]); (try simp only [hl470004_2]); (with_reducible repeat (first | apply Kd.R_alloc | apply Kd.R_drewN | apply Kd.R_drew)); exact HO_470006.out⟩, ⟨by (try simp only [hl470003_1]); (try simp only [hl470006_1]); (try simp only [hl470004_2]); (with_reducible repeat (first | refine blk_drewN ?_ _ | refine blk_drew ?_ | refine blk_alloc ?_ _)); exact aa.out⟩, ⟨by repeat (first | (with_reducible first | exact HK.out | apply Kept.alloc | apply Kept.drewN | apply Kept.drew | refine Kept.setCell ?_ (.inr ah.out) _) | exact HK.out)⟩, ⟨by repeat (first | (with_reducible first | exact HB.out | apply below_alloc | apply pw_below_drewN | apply below_drew1 | refine below_set ?_ GE469.out) | exact HB.out)⟩⟩
       ·rw [if_neg c14] at H
        exact absurd H (by simp)
      ·rw [if_neg c13] at H
       have c13b0 : decide (x3_2 < (x470004_2.length : Int)) = false := decide_eq_false c13
       clear c13
       have H' := Aside0.mk H
       clear H
       have hcz19_0 : wr.cell? ⟨ab, 0, none⟩ = some (.int .i64 ac) := (blk_cell aa.out 0).trans rfl
       have hcz19_1 : wr.cell? ⟨ab, 1, none⟩ = some (.int .i64 ad) := (blk_cell aa.out 1).trans rfl
       have hcz19_2 : wr.cell? ⟨ab, 2, none⟩ = some (.int .i64 ae) := (blk_cell aa.out 2).trans rfl
       have hcz19_3 : wr.cell? ⟨ab, 3, none⟩ = some (.slice an x470003_1.length ai) := (blk_cell aa.out 3).trans rfl
       have hcz19_4 : wr.cell? ⟨ab, 4, none⟩ = some (.slice ap x470004_2.length ak) := (blk_cell aa.out 4).trans rfl
       have hcz19_5 : wr.cell? ⟨ab, 5, none⟩ = some (.int .i64 af) := (blk_cell aa.out 5).trans rfl
       have hcz19_6 : wr.cell? ⟨ab, 6, none⟩ = some (.slice ao x470006_1.length aj) := (blk_cell aa.out 6).trans rfl
       have hfz19_0 := blk_frozen aa.out 0
       have hfz19_1 := blk_frozen aa.out 1
       have hfz19_2 := blk_frozen aa.out 2
       have hfz19_3 := blk_frozen aa.out 3
       have hfz19_4 := blk_frozen aa.out 4
       have hfz19_5 := blk_frozen aa.out 5
       have hfz19_6 := blk_frozen aa.out 6
       go_wp2
       go_loopg [4] k2 (fun kq v4 w' => ∃ (x4_3 : Int) (x470003_3 : List Int) (x470006_3 : List Int), v4 = .int .i64 x4_3 ∧ Aside0 (whirligiglaw09_spoil.l2 kq x4_3 ac ad ae x470003_3 x470004_2 af x470006_3 = some (r1, r2, r3)) ∧ Aside0 (kq ≤ k2) ∧ Aside0 (Kd.R (Kd.int .i64) 3 w' w0.heap.size (fun k_ => ((P0_3_ k_ ∨ P0_4_ k_ ∨ P0_6_ k_) ∨ w.heap.size ≤ k_) ∧ some k_ ≠ ((.slice ao x470006_1.length aj) : Value).ownBlock) (.slice an x470003_1.length ai) x470003_3) ∧ Aside0 (Kd.R k63 63 w' w0.heap.size (fun k_ => ((P0_3_ k_ ∨ P0_4_ k_ ∨ P0_6_ k_) ∨ w.heap.size ≤ k_)) (.slice ap x470004_2.length ak) x470004_2) ∧ Aside0 (Kd.R (Kd.int .i64) 3 w' w0.heap.size (fun k_ => ((P0_3_ k_ ∨ P0_4_ k_ ∨ P0_6_ k_) ∨ w.heap.size ≤ k_) ∧ some k_ ≠ ((.slice an x470003_1.length ai) : Value).ownBlock) (.slice ao x470006_1.length aj) x470006_3) ∧ Aside0 (w'.heap[ab]? = some (.cells #[.int .i64 ac, .int .i64 ad, .int .i64 ae, (.slice an x470003_1.length ai), (.slice ap x470004_2.length ak), .int .i64 af, (.slice ao x470006_1.length aj)] 30 (0, 0))) ∧ Aside0 (Kept w w' (fun k_ => P0_3_ k_ ∨ P0_4_ k_ ∨ P0_6_ k_)) ∧ Aside0 (Below w0.heap.size w0 w'))
       case atStart => exact ⟨(0), (x470003_1), (x470006_1), (by first | rfl | (simp; done) | (simp [*]; done)), H', ⟨Nat.le_refl _⟩, ⟨by (try simp only [hl470003_1]); (try simp only [hl470006_1]); (try simp only [hl470004_2]); (with_reducible repeat (first | apply Kd.R_alloc | apply Kd.R_drewN | apply Kd.R_drew)); exact HO_470003.out⟩, ⟨by (try simp only [hl470003_1]); (try simp only [hl470006_1]); (try simp only [hl470004_2]); (with_reducible repeat (first | apply Kd.R_alloc | apply Kd.R_drewN | apply Kd.R_drew)); exact HO_470004.out⟩, ⟨by (try simp only [hl470003_1]); (try simp only [hl470006_1]); (try simp only [hl470004_2]); (with_reducible repeat (first | apply Kd.R_alloc | apply Kd.R_drewN | apply Kd.R_drew)); exact HO_470006.out⟩, ⟨by (try simp only [hl470003_1]); (try simp only [hl470006_1]); (try simp only [hl470004_2]); (with_reducible repeat (first | refine blk_drewN ?_ _ | refine blk_drew ?_ | refine blk_alloc ?_ _)); exact aa.out⟩, ⟨by repeat (first | (with_reducible first | exact HK.out | apply Kept.alloc | apply Kept.drewN | apply Kept.drew | refine Kept.setCell ?_ (.inr ah.out) _) | exact HK.out)⟩, ⟨by repeat (first | (with_reducible first | exact HB.out | apply below_alloc | apply pw_below_drewN | apply below_drew1 | refine below_set ?_ GE469.out) | exact HB.out)⟩⟩
       case round =>
        clear H'
        try clear c1
        try clear p1
        try clear q1
        try clear hx1
        try clear hf1
        try clear c2
        try clear p2
        try clear c6
        try clear c6b0
        try clear p6
        try clear c7
        try clear c7b0
        try clear p8
        try clear q8
        try clear hx8
        try clear hf8
        try clear c13
        try clear c13b0
        try clear c14
        try clear c14b0
        try clear c15
        try clear p15
        try clear q15
        try clear hx15
        try clear hf15
        try clear c17
        try clear hx17
        try clear hf17
        try clear hcz12_0
        try clear hcz12_1
        try clear hcz12_2
        try clear hcz12_3
        try clear hcz12_4
        try clear hcz12_5
        try clear hcz12_6
        try clear hcz16_0
        try clear hcz16_1
        try clear hcz16_2
        try clear hcz16_3
        try clear hcz16_4
        try clear hcz16_5
        try clear hcz16_6
        try clear hcz19_0
        try clear hcz19_1
        try clear hcz19_2
        try clear hcz19_3
        try clear hcz19_4
        try clear hcz19_5
        try clear hcz19_6
        try clear hcz9_0
        try clear hcz9_1
        try clear hcz9_2
        try clear hcz9_3
        try clear hcz9_4
        try clear hcz9_5
        try clear hcz9_6
        try clear hfz12_0
        try clear hfz12_1
        try clear hfz12_2
        try clear hfz12_3
        try clear hfz12_4
        try clear hfz12_5
        try clear hfz12_6
        try clear hfz16_0
        try clear hfz16_1
        try clear hfz16_2
        try clear hfz16_3
        try clear hfz16_4
        try clear hfz16_5
        try clear hfz16_6
        try clear hfz19_0
        try clear hfz19_1
        try clear hfz19_2
        try clear hfz19_3
        try clear hfz19_4
        try clear hfz19_5
        try clear hfz19_6
        try clear hfz9_0
        try clear hfz9_1
        try clear hfz9_2
        try clear hfz9_3
        try clear hfz9_4
        try clear hfz9_5
        try clear hfz9_6
        try clear hx15_0
        try clear hx15_1
        try clear hx17_0
        try clear hx17_1
        try clear hx8_0
        try clear p15
        try clear p2
        try clear p6
        try clear p8
        try clear q15
        try clear q8
        obtain ⟨x4_3, x470003_3, x470006_3, rfl, HA, HK3, HO_470003, HO_470004, HO_470006, aa, HK, HB⟩ := hrel
        have hl470003_3 := (Kd.R_reads' HO_470003.out).1
        rw [hl470003_3] at HO_470003
        (try simp only [hl470003_3])
        (try simp only [hl470003_3] at aa)
        (try simp only [hl470003_3] at HO_470004)
        (try simp only [hl470003_3] at HO_470006)
        have hl470006_3 := (Kd.R_reads' HO_470006.out).1
        rw [hl470006_3] at HO_470006
        (try simp only [hl470006_3])
        (try simp only [hl470006_3] at aa)
        (try simp only [hl470006_3] at HO_470003)
        (try simp only [hl470006_3] at HO_470004)
        cases gk with
        | zero => exact absurd HA.out (by simp [whirligiglaw09_spoil.l2])
        | succ k3 =>
         have H := HA.out
         clear HA
         simp only [whirligiglaw09_spoil.l2] at H
         by_cases c20 : x4_3 < (x470006_3.length : Int)
         ·rw [if_pos c20] at H
          have c20b0 : decide (x4_3 < (x470006_3.length : Int)) = true := decide_eq_true c20
          clear c20
          by_cases c21 : 0 ≤ x4_3
          ·rw [if_pos c21] at H
           have c21b0 : decide (0 ≤ x4_3) = true := decide_eq_true c21
           clear c21
           obtain ⟨y472, hy472⟩ : ∃ y_ : List Int, y_ = (x470006_3.set (x4_3 : Int).toNat 7) := ⟨_, rfl⟩
           replace H : (whirligiglaw09_spoil.l2 k3 (wrap64 (x4_3 + 1)) ac ad ae x470003_3 x470004_2 af y472) = some (r1, r2, r3) := by first | (rw [hy472]; with_reducible exact H) | (have H2_ := (Option.bind_some _ _).symm.trans H; rw [hy472]; with_reducible exact H2_) | (have H2_ := (Option.bind_some _ _).symm.trans H; with_reducible exact H2_) | with_reducible exact H | (rw [hy472]; exact H) | exact H
           have Ny472 := Aside0.mk hy472
           clear hy472
           have H' := Aside0.mk H
           clear H
           have hcz23_0 : wr.cell? ⟨ab, 0, none⟩ = some (.int .i64 ac) := (blk_cell aa.out 0).trans rfl
           have hcz23_1 : wr.cell? ⟨ab, 1, none⟩ = some (.int .i64 ad) := (blk_cell aa.out 1).trans rfl
           have hcz23_2 : wr.cell? ⟨ab, 2, none⟩ = some (.int .i64 ae) := (blk_cell aa.out 2).trans rfl
           have hcz23_3 : wr.cell? ⟨ab, 3, none⟩ = some (.slice an x470003_3.length ai) := (blk_cell aa.out 3).trans rfl
           have hcz23_4 : wr.cell? ⟨ab, 4, none⟩ = some (.slice ap x470004_2.length ak) := (blk_cell aa.out 4).trans rfl
           have hcz23_5 : wr.cell? ⟨ab, 5, none⟩ = some (.int .i64 af) := (blk_cell aa.out 5).trans rfl
           have hcz23_6 : wr.cell? ⟨ab, 6, none⟩ = some (.slice ao x470006_3.length aj) := (blk_cell aa.out 6).trans rfl
           have hfz23_0 := blk_frozen aa.out 0
           have hfz23_1 := blk_frozen aa.out 1
           have hfz23_2 := blk_frozen aa.out 2
           have hfz23_3 := blk_frozen aa.out 3
           have hfz23_4 := blk_frozen aa.out 4
           have hfz23_5 := blk_frozen aa.out 5
           have hfz23_6 := blk_frozen aa.out 6
           have p22 : 0 ≤ (x4_3 : Int) := of_decide_eq_true (by first | (with_reducible assumption) | assumption)
           have q22 : (x4_3 : Int) < ((x470006_3.length : Int) : Int) := of_decide_eq_true (by first | (with_reducible assumption) | assumption)
           obtain ⟨go22, co22, eo22, gb22, gl22, cl22, HG22⟩ := Kd.R_form HO_470006.out (by omega)
           (first | cases eo22 | (injection eo22 with ea_ en_ ec_; (first | subst ea_ | (injection ea_ with ea_; subst ea_)); subst ec_; clear en_))
           have GB22 := Aside0.mk gb22
           have GG22 := Aside0.mk HG22
           clear gb22 gl22 HG22
           have HMgo22 := Aside0.mk (show ((P0_3_ go22 ∨ P0_4_ go22 ∨ P0_6_ go22) ∨ w.heap.size ≤ go22) from (HO_470006.out.1 _ rfl).1)
           obtain ⟨hx22_0, hf22_0⟩ := Kd.R_celln 0 HO_470006.out (x4_3 : Int) p22 q22
           replace p22 := eq_true p22
           replace q22 := eq_true q22
           have HP24 := Kd.R_putg HO_470006.out (x4_3 : Int) 7
           go_wp2_with (first | ((with_reducible refine gate_store (t := 3) (p := 38) rfl ?_); refine store_event (t := 3) (p := 38) (v := ?vo_w25) (w1 := (wr.setCell ⟨go22, (x4_3 : Int).toNat, none⟩ (.int .i64 7))) ?hg ?ho ?hn ?hr ?_; (case ho => rfl); (case hg => rfl); (case hn => rfl); (case hr => first | (go_simp; done) | (go_simp; rfl)); intro w25 hw; have hg : wr.grownBy w25 (some go22) := (by rw [hw]; exact HP24.2); have hp_ : Kd.R (Kd.int .i64) 3 w25 w0.heap.size (fun k_ => ((P0_3_ k_ ∨ P0_4_ k_ ∨ P0_6_ k_) ∨ w.heap.size ≤ k_) ∧ some k_ ≠ (.slice an x470003_3.length ai : Value).ownBlock) (.slice (some ⟨go22, 0, none⟩) x470006_3.length aj) y472 := (by rw [hw, Ny472.out]; exact HP24.1); clear HP24; have n0_ := Aside0.mk (Kd.R_after (v := (.slice (some ⟨go22, 0, none⟩) x470006_3.length aj)) (v1 := (.slice (some ⟨go22, 0, none⟩) x470006_3.length aj)) (ok := (fun k_ => ((P0_3_ k_ ∨ P0_4_ k_ ∨ P0_6_ k_) ∨ w.heap.size ≤ k_))) (by (with_reducible repeat (first | apply Kd.R_alloc | apply Kd.R_drewN | apply Kd.R_drew)); exact HO_470003.out) hg (.inl rfl)); have n1_ := Aside0.mk (Kd.R_over' (v := (.slice (some ⟨go22, 0, none⟩) x470006_3.length aj)) (by (with_reducible repeat (first | apply Kd.R_alloc | apply Kd.R_drewN | apply Kd.R_drew)); exact HO_470004.out) (Kd.R_typed HO_470006.out) (by decide) hg); have n2_ := Aside0.mk (hp_); have n3_ := Aside0.mk (blk_grown (g := ab) (o := .cells #[.int .i64 ac, .int .i64 ad, .int .i64 ae, .slice an x470003_3.length ai, .slice ap x470004_2.length ak, .int .i64 af, .slice (some ⟨go22, 0, none⟩) x470006_3.length aj] 30 (0, 0)) (by (with_reducible repeat (first | refine blk_drewN ?_ _ | refine blk_drew ?_ | refine blk_alloc ?_ _)); exact aa.out) hg (Kd.R_ne HO_470006.out aa.out (by decide))); have n4_ := Aside0.mk ((by rw [hw]; exact below_set (HB.out) GB22.out : Below w0.heap.size w0 w25)); have n5_ := Aside0.mk (Kept.of_grown (S := (fun k_ => P0_3_ k_ ∨ P0_4_ k_ ∨ P0_6_ k_)) hg (by repeat (first | (with_reducible first | exact HK.out | apply Kept.alloc | apply Kept.drewN | apply Kept.drew | refine Kept.setCell ?_ (.inr ah.out) _) | exact HK.out)) (fun k_ e_ => (HO_470006.out.1 k_ e_).1)); clear HO_470003; clear HO_470004; clear HO_470006; clear aa; clear HB; clear HK; have HO_470003 := n0_; have HO_470004 := n1_; have HO_470006 := n2_; have aa := n3_; have HB := n4_; have HK := n5_; clear n0_ n1_ n2_ n3_ n4_ n5_; clear hg hw hp_))
           (try simp only [← hl470003_3, ← hl470006_3])
           go_roundg k3
           case measure => have := HK1.out; have := HK2.out; have := HK3.out; omega
           case rel => exact ⟨(wrap64 (x4_3 + 1)), (x470003_3), (y472), (by first | rfl | (simp; done) | (simp [*]; done)), H', ⟨by have := HK1.out; have := HK2.out; have := HK3.out; omega⟩, ⟨by (try simp only [hl470003_1]); (try simp only [hl470006_1]); (try simp only [hl470004_2]); (try simp only [hl470003_3]); (try simp only [hl470006_3]); (with_reducible repeat (first | apply Kd.R_alloc | apply Kd.R_drewN | apply Kd.R_drew)); exact HO_470003.out⟩, ⟨by (try simp only [hl470003_1]); (try simp only [hl470006_1]); (try simp only [hl470004_2]); (try simp only [hl470003_3]); (try simp only [hl470006_3]); (with_reducible repeat (first | apply Kd.R_alloc | apply Kd.R_drewN | apply Kd.R_drew)); exact HO_470004.out⟩, ⟨by (try simp only [hl470003_1]); (try simp only [hl470006_1]); (try simp only [hl470004_2]); (try simp only [hl470003_3]); (try simp only [hl470006_3]); (with_reducible repeat (first | apply Kd.R_alloc | apply Kd.R_drewN | apply Kd.R_drew)); exact HO_470006.out⟩, ⟨by (try simp only [hl470003_1]); (try simp only [hl470006_1]); (try simp only [hl470004_2]); (try simp only [hl470003_3]); (try simp only [hl470006_3]); (with_reducible repeat (first | refine blk_drewN ?_ _ | refine blk_drew ?_ | refine blk_alloc ?_ _)); exact aa.out⟩, ⟨by repeat (first | (with_reducible first | exact HK.out | apply Kept.alloc | apply Kept.drewN | apply Kept.drew | refine Kept.setCell ?_ (.inr ah.out) _) | exact HK.out)⟩, ⟨by repeat (first | (with_reducible first | exact HB.out | apply below_alloc | apply pw_below_drewN | apply below_drew1 | refine below_set ?_ GE469.out) | exact HB.out)⟩⟩
          ·rw [if_neg c21] at H
           exact absurd H (by simp)
         ·rw [if_neg c20] at H
          have c20b0 : decide (x4_3 < (x470006_3.length : Int)) = false := decide_eq_false c20
          clear c20
          simp only [Option.some.injEq, Prod.mk.injEq] at H
          obtain ⟨rfl, rfl, rfl⟩ := H
          have hcz26_0 : wr.cell? ⟨ab, 0, none⟩ = some (.int .i64 ac) := (blk_cell aa.out 0).trans rfl
          have hcz26_1 : wr.cell? ⟨ab, 1, none⟩ = some (.int .i64 ad) := (blk_cell aa.out 1).trans rfl
          have hcz26_2 : wr.cell? ⟨ab, 2, none⟩ = some (.int .i64 ae) := (blk_cell aa.out 2).trans rfl
          have hcz26_3 : wr.cell? ⟨ab, 3, none⟩ = some (.slice an x470003_3.length ai) := (blk_cell aa.out 3).trans rfl
          have hcz26_4 : wr.cell? ⟨ab, 4, none⟩ = some (.slice ap x470004_2.length ak) := (blk_cell aa.out 4).trans rfl
          have hcz26_5 : wr.cell? ⟨ab, 5, none⟩ = some (.int .i64 af) := (blk_cell aa.out 5).trans rfl
          have hcz26_6 : wr.cell? ⟨ab, 6, none⟩ = some (.slice ao x470006_3.length aj) := (blk_cell aa.out 6).trans rfl
          have hfz26_0 := blk_frozen aa.out 0
          have hfz26_1 := blk_frozen aa.out 1
          have hfz26_2 := blk_frozen aa.out 2
          have hfz26_3 := blk_frozen aa.out 3
          have hfz26_4 := blk_frozen aa.out 4
          have hfz26_5 := blk_frozen aa.out 5
          have hfz26_6 := blk_frozen aa.out 6
          go_wp2
          first | go_end0 | ((try simp only [Exit.inBlock, Exit.then]); refine bodyPost_ret (results_none rfl _ _ _) rfl ?_)
          exact ⟨by first | rfl | (simp [errW_none, errW_some] <;> rfl) | (simp [*, errW_none, errW_some] <;> rfl), (by first | exact (by (with_reducible repeat (first | apply Kd.R_alloc | apply Kd.R_drewN | apply Kd.R_drew)); exact Kd.R_mono HO_470003.out (fun _ hk => hk.1)) | (simp only [hl470003_1, hl470006_1, hl470004_2, hl470003_3, hl470006_3]; exact (by (with_reducible repeat (first | apply Kd.R_alloc | apply Kd.R_drewN | apply Kd.R_drew)); exact Kd.R_mono HO_470003.out (fun _ hk => hk.1)))), (by first | exact (by (with_reducible repeat (first | apply Kd.R_alloc | apply Kd.R_drewN | apply Kd.R_drew)); exact HO_470004.out) | (simp only [hl470003_1, hl470006_1, hl470004_2, hl470003_3, hl470006_3]; exact (by (with_reducible repeat (first | apply Kd.R_alloc | apply Kd.R_drewN | apply Kd.R_drew)); exact HO_470004.out))), (by first | exact (by (with_reducible repeat (first | apply Kd.R_alloc | apply Kd.R_drewN | apply Kd.R_drew)); exact Kd.R_mono HO_470006.out (fun _ hk => hk.1)) | (simp only [hl470003_1, hl470006_1, hl470004_2, hl470003_3, hl470006_3]; exact (by (with_reducible repeat (first | apply Kd.R_alloc | apply Kd.R_drewN | apply Kd.R_drew)); exact Kd.R_mono HO_470006.out (fun _ hk => hk.1)))), by repeat (first | (with_reducible first | exact HB.out | apply below_alloc | apply pw_below_drewN | apply below_drew1 | refine below_set ?_ GE469.out) | exact HB.out), by repeat (first | (with_reducible first | exact HK.out | apply Kept.alloc | apply Kept.drewN | apply Kept.drew | refine Kept.setCell ?_ (.inr ah.out) _) | exact HK.out)⟩

end Go.Proofs.Ytnnlbofmlfafhaa.P

end

/- Printed by this session's own program (wip/tools/pr.py) out of the translation: functions of the program as plain Lean functions, and that the program's calls come to what these say. -/
import Derived.Test.YtnnlbofmlfafhaaPx0
import Derived.Test.YtnnlbofmlfafhaaPx3
import Derived.Test.YtnnlbofmlfafhaaPx5
namespace Go.Proofs.Ytnnlbofmlfafhaa.P
open Go.RowKit Go.Proofs.YtnnlbofmlfafhaaW.PrintWords Go.Proofs.YtnnlbofmlfafhaaW.PrintLast Go.Proofs.YtnnlbofmlfafhaaW.PrintMore
attribute [local go_sem] max2_int min2_int max_two min_two max_three min_three max_four min_four   -- for this text's walks alone
set_option linter.unusedVariables false
set_option linter.unusedSimpArgs false

/-! ### whirligiglaw09_AttrOrder: function 4 -/
def whirligiglaw09_AttrOrder.j0 : Nat → Bool → Int → Int → Int → List Int → List (S63) → Int → List Int → Int → Int → Int → List Int → List (S63) → Int → List Int → Int → Int → Int → List Int → List (S63) → Int → List Int → Option (Bool)
  | 0, _, _, _, _, _, _, _, _, _, _, _, _, _, _, _, _, _, _, _, _, _, _ => none
  | k + 1, x22, x244000, x244001, x244002, x244003, x244004, x244005, x244006, x245000, x245001, x245002, x245003, x245004, x245005, x245006, x246000, x246001, x246002, x246003, x246004, x246005, x246006 => if x22 = true then ((whirligiglaw09_lives.f k).bind fun t249 => (some t249)) else ((attr_Compare.f k x244000 x244001 x244002 x244003 x244004 x244005 x244006 x245000 x245001 x245002 x245003 x245004 x245005 x245006).bind fun t250 => ((attr_Compare.f k x245000 x245001 x245002 x245003 x245004 x245005 x245006 x246000 x246001 x246002 x246003 x246004 x246005 x246006).bind fun t251 => ((attr_Compare.f k x244000 x244001 x244002 x244003 x244004 x244005 x244006 x246000 x246001 x246002 x246003 x246004 x246005 x246006).bind fun t252 => ((whirligigref09_Compare.f k x244000 x244001 x244002 x244003 x244004 x244005 x244006 x245000 x245001 x245002 x245003 x245004 x245005 x245006).bind fun t253 => (if t250 = t253 then ((attr_Compare.f k x245000 x245001 x245002 x245003 x245004 x245005 x245006 x244000 x244001 x244002 x244003 x244004 x244005 x244006).bind fun t254 => (if t254 = (wrap64 (-t250)) then ((attr_Compare.f k x244000 x244001 x244002 x244003 x244004 x244005 x244006 x244000 x244001 x244002 x244003 x244004 x244005 x244006).bind fun t255 => (if t255 = 0 then (if t250 > 0 then ((whirligiglaw09_lives.f k).bind fun t256 => (some t256)) else (if t251 > 0 then ((whirligiglaw09_lives.f k).bind fun t257 => (some t257)) else (if t252 ≤ 0 then (if t250 = 0 then (if t251 = 0 then ((whirligiglaw09_lives.f k).bind fun t258 => (some t258)) else (if t252 < 0 then ((whirligiglaw09_lives.f k).bind fun t259 => (some t259)) else (some false))) else (if t252 < 0 then ((whirligiglaw09_lives.f k).bind fun t260 => (some t260)) else (some false))) else (some false)))) else (some false))) else (some false))) else (some false))))))
def whirligiglaw09_AttrOrder.f (k : Nat) (a0_0 : Int) (a0_1 : Int) (a0_2 : Int) (l0_3 : List Int) (l0_4 : List (S63)) (a0_5 : Int) (l0_6 : List Int) (a1_0 : Int) (a1_1 : Int) (a1_2 : Int) (l1_3 : List Int) (l1_4 : List (S63)) (a1_5 : Int) (l1_6 : List Int) (a2_0 : Int) (a2_1 : Int) (a2_2 : Int) (l2_3 : List Int) (l2_4 : List (S63)) (a2_5 : Int) (l2_6 : List Int) : Option (Bool) := (whirligigref09_Few.f a0_0 a0_1 a0_2 l0_3 l0_4 a0_5 l0_6).bind fun t246 => (if t246 = true then ((whirligigref09_Few.f a1_0 a1_1 a1_2 l1_3 l1_4 a1_5 l1_6).bind fun t247 => (if t247 = true then ((whirligigref09_Few.f a2_0 a2_1 a2_2 l2_3 l2_4 a2_5 l2_6).bind fun t248 => (whirligiglaw09_AttrOrder.j0 k (!t248) a0_0 a0_1 a0_2 l0_3 l0_4 a0_5 l0_6 a1_0 a1_1 a1_2 l1_3 l1_4 a1_5 l1_6 a2_0 a2_1 a2_2 l2_3 l2_4 a2_5 l2_6)) else (whirligiglaw09_AttrOrder.j0 k true a0_0 a0_1 a0_2 l0_3 l0_4 a0_5 l0_6 a1_0 a1_1 a1_2 l1_3 l1_4 a1_5 l1_6 a2_0 a2_1 a2_2 l2_3 l2_4 a2_5 l2_6))) else (whirligiglaw09_AttrOrder.j0 k true a0_0 a0_1 a0_2 l0_3 l0_4 a0_5 l0_6 a1_0 a1_1 a1_2 l1_3 l1_4 a1_5 l1_6 a2_0 a2_1 a2_2 l2_3 l2_4 a2_5 l2_6))
theorem whirligiglaw09_AttrOrder.mono_l : ∀ k, (∀ y0 y1 y2 y3 y4 y5 y6 y7 y8 y9 y10 y11 y12 y13 y14 y15 y16 y17 y18 y19 y20 y21, LeO (whirligiglaw09_AttrOrder.j0 k y0 y1 y2 y3 y4 y5 y6 y7 y8 y9 y10 y11 y12 y13 y14 y15 y16 y17 y18 y19 y20 y21) (whirligiglaw09_AttrOrder.j0 (k + 1) y0 y1 y2 y3 y4 y5 y6 y7 y8 y9 y10 y11 y12 y13 y14 y15 y16 y17 y18 y19 y20 y21))
  | 0 => fun _ _ _ _ _ _ _ _ _ _ _ _ _ _ _ _ _ _ _ _ _ _ r h => by simp [whirligiglaw09_AttrOrder.j0] at h
  | k + 1 => by
    have ih0 := whirligiglaw09_AttrOrder.mono_l k
    · intro y0 y1 y2 y3 y4 y5 y6 y7 y8 y9 y10 y11 y12 y13 y14 y15 y16 y17 y18 y19 y20 y21
      unfold whirligiglaw09_AttrOrder.j0
      repeat' first
      | (with_reducible exact ih0 _ _ _ _ _ _ _ _ _ _ _ _ _ _ _ _ _ _ _ _ _ _)
      | (with_reducible exact attr_Compare.mono _ _ _ _ _ _ _ _ _ _ _ _ _ _ _)
      | (with_reducible exact whirligiglaw09_lives.mono _)
      | (with_reducible exact whirligigref09_Compare.mono _ _ _ _ _ _ _ _ _ _ _ _ _ _ _)
      | (with_reducible exact LeO.refl _)
      | (with_reducible exact LeO.none _)
      | (with_reducible refine LeO.ite ?_ ?_)
      | (with_reducible refine LeO.bind ?_ (fun _ => ?_))
      | exact ih0 _ _ _ _ _ _ _ _ _ _ _ _ _ _ _ _ _ _ _ _ _ _
      | exact attr_Compare.mono _ _ _ _ _ _ _ _ _ _ _ _ _ _ _
      | exact whirligiglaw09_lives.mono _
      | exact whirligigref09_Compare.mono _ _ _ _ _ _ _ _ _ _ _ _ _ _ _
      | exact LeO.none _
      | refine LeO.ite ?_ ?_
      | refine LeO.bind ?_ (fun _ => ?_)
theorem whirligiglaw09_AttrOrder.mono : ∀ a0 a1 a2 a3 a4 a5 a6 a7 a8 a9 a10 a11 a12 a13 a14 a15 a16 a17 a18 a19 a20 k, LeO (whirligiglaw09_AttrOrder.f k a0 a1 a2 a3 a4 a5 a6 a7 a8 a9 a10 a11 a12 a13 a14 a15 a16 a17 a18 a19 a20) (whirligiglaw09_AttrOrder.f (k + 1) a0 a1 a2 a3 a4 a5 a6 a7 a8 a9 a10 a11 a12 a13 a14 a15 a16 a17 a18 a19 a20) := by
  intro a0 a1 a2 a3 a4 a5 a6 a7 a8 a9 a10 a11 a12 a13 a14 a15 a16 a17 a18 a19 a20 k
  have ih0 := whirligiglaw09_AttrOrder.mono_l k
  unfold whirligiglaw09_AttrOrder.f
  repeat' first
      | (with_reducible exact ih0 _ _ _ _ _ _ _ _ _ _ _ _ _ _ _ _ _ _ _ _ _ _)
      | (with_reducible exact attr_Compare.mono _ _ _ _ _ _ _ _ _ _ _ _ _ _ _)
      | (with_reducible exact whirligiglaw09_lives.mono _)
      | (with_reducible exact whirligigref09_Compare.mono _ _ _ _ _ _ _ _ _ _ _ _ _ _ _)
      | (with_reducible exact LeO.refl _)
      | (with_reducible exact LeO.none _)
      | (with_reducible refine LeO.ite ?_ ?_)
      | (with_reducible refine LeO.bind ?_ (fun _ => ?_))
      | exact ih0 _ _ _ _ _ _ _ _ _ _ _ _ _ _ _ _ _ _ _ _ _ _
      | exact attr_Compare.mono _ _ _ _ _ _ _ _ _ _ _ _ _ _ _
      | exact whirligiglaw09_lives.mono _
      | exact whirligigref09_Compare.mono _ _ _ _ _ _ _ _ _ _ _ _ _ _ _
      | exact LeO.none _
      | refine LeO.ite ?_ ?_
      | refine LeO.bind ?_ (fun _ => ?_)
def whirligiglaw09_AttrOrder.T3 : Bool × List (List Nat × List Nat) := (true, [([], []), ([], []), ([0, 1], [0, 1]), ([], []), ([], []), ([3, 4, 2], [3, 4]), ([], []), ([], []), ([6, 7, 5], [6, 7]), ([2, 8, 0, 1, 2], [2]), ([5, 9, 0, 1, 2, 3, 4, 5, 9], [5]), ([8, 10, 0, 1, 2, 3, 4, 5, 6, 7, 8, 9, 10], [8])])
def whirligiglaw09_AttrOrder.B3 : List Nat := [0, 0, 3, 0, 0, 31, 0, 0, 255, 511, 1023, 2047]
theorem whirligiglaw09_AttrOrder.tab3 : rtab .any (opsOf Try.f4 3) = whirligiglaw09_AttrOrder.T3 := by kernel_rfl
theorem whirligiglaw09_AttrOrder.bits3 : waitsOk whirligiglaw09_AttrOrder.T3.2 whirligiglaw09_AttrOrder.B3 = true := by kernel_rfl
theorem kc707.b7 {W : World} {g : Nat} {v0 v1 v2 v3 v4 v5 v6 : Value} {t : TypeId} (h : W.heap[g]? = some (.cells #[v0, v1, v2, v3, v4, v5, v6] t (0, 0))) {R : Prop} (r : R) : W.cell? ⟨g, 0, none⟩ = some v0 ∧ W.cell? ⟨g, 1, none⟩ = some v1 ∧ W.cell? ⟨g, 2, none⟩ = some v2 ∧ W.cell? ⟨g, 3, none⟩ = some v3 ∧ W.cell? ⟨g, 4, none⟩ = some v4 ∧ W.cell? ⟨g, 5, none⟩ = some v5 ∧ W.cell? ⟨g, 6, none⟩ = some v6 ∧ R :=
  ⟨(blk_cell h 0).trans rfl, (blk_cell h 1).trans rfl, (blk_cell h 2).trans rfl, (blk_cell h 3).trans rfl, (blk_cell h 4).trans rfl, (blk_cell h 5).trans rfl, (blk_cell h 6).trans rfl, r⟩
theorem kc707.b7e {W : World} {g : Nat} {v0 v1 v2 v3 v4 v5 v6 : Value} {t : TypeId} (h : W.heap[g]? = some (.cells #[v0, v1, v2, v3, v4, v5, v6] t (0, 0))) : W.cell? ⟨g, 0, none⟩ = some v0 ∧ W.cell? ⟨g, 1, none⟩ = some v1 ∧ W.cell? ⟨g, 2, none⟩ = some v2 ∧ W.cell? ⟨g, 3, none⟩ = some v3 ∧ W.cell? ⟨g, 4, none⟩ = some v4 ∧ W.cell? ⟨g, 5, none⟩ = some v5 ∧ W.cell? ⟨g, 6, none⟩ = some v6 :=
  ⟨(blk_cell h 0).trans rfl, (blk_cell h 1).trans rfl, (blk_cell h 2).trans rfl, (blk_cell h 3).trans rfl, (blk_cell h 4).trans rfl, (blk_cell h 5).trans rfl, (blk_cell h 6).trans rfl⟩
theorem kc707.q {w W W' : World} {g : Nat} {o : Obj} (h : w.heap[g]? = some o) (e : W.heap = w.heap) (hb : Below W.heap.size W W') : W'.heap[g]? = some o := blk_below (e ▸ h) hb
theorem kc707.z {w0 w W W' : World} (h : Below w0.heap.size w0 w) (e : W.heap = w.heap) (e1 : W.os = w.os) (e2 : W.tape = w.tape) (e3 : W.output = w.output) (hb : Below W.heap.size W W') : Below w0.heap.size w0 W' := below_step ⟨e1.trans h.os, e2.trans h.tape, e3.trans h.output, e ▸ h.size, fun k hk => by rw [e]; exact h.block k hk⟩ hb
@[reducible] def kc707.S0 (g0 g1 g2 : Nat) (v0 v1 v2 v3 v4 v5 v6 v7 v8 v9 v10 v11 v12 v13 v14 v15 v16 v17 v18 v19 v20 : Value) (w' : World) : Prop := w'.cell? ⟨g0, 0, none⟩ = some v0 ∧ w'.cell? ⟨g0, 1, none⟩ = some v1 ∧ w'.cell? ⟨g0, 2, none⟩ = some v2 ∧ w'.cell? ⟨g0, 3, none⟩ = some v3 ∧ w'.cell? ⟨g0, 4, none⟩ = some v4 ∧ w'.cell? ⟨g0, 5, none⟩ = some v5 ∧ w'.cell? ⟨g0, 6, none⟩ = some v6 ∧ w'.cell? ⟨g1, 0, none⟩ = some v7 ∧ w'.cell? ⟨g1, 1, none⟩ = some v8 ∧ w'.cell? ⟨g1, 2, none⟩ = some v9 ∧ w'.cell? ⟨g1, 3, none⟩ = some v10 ∧ w'.cell? ⟨g1, 4, none⟩ = some v11 ∧ w'.cell? ⟨g1, 5, none⟩ = some v12 ∧ w'.cell? ⟨g1, 6, none⟩ = some v13 ∧ w'.cell? ⟨g2, 0, none⟩ = some v14 ∧ w'.cell? ⟨g2, 1, none⟩ = some v15 ∧ w'.cell? ⟨g2, 2, none⟩ = some v16 ∧ w'.cell? ⟨g2, 3, none⟩ = some v17 ∧ w'.cell? ⟨g2, 4, none⟩ = some v18 ∧ w'.cell? ⟨g2, 5, none⟩ = some v19 ∧ w'.cell? ⟨g2, 6, none⟩ = some v20
set_option maxHeartbeats 8000000 in
set_option maxRecDepth 100000 in
theorem whirligiglaw09_AttrOrder.calls (k : Nat) (ai : Int) (aj : Int) (ak : Int) (av : Option Addr) (aw : Nat) (af : List Int) (ax : Option Addr) (ay : Nat) (ag : List (S63)) (al : Int) (az : Option Addr) (ba : Nat) (ah : List Int) (ap : Int) (aq : Int) (ar : Int) (bh : Option Addr) (bi : Nat) (am : List Int) (bj : Option Addr) (bk : Nat) (an : List (S63)) (au : Int) (bl : Option Addr) (bm : Nat) (ao : List Int) (bw : Int) (bx : Int) (bz : Int) (b8 : Option Addr) (b9 : Nat) (bt : List Int) (da : Option Addr) (db : Nat) (bu : List (S63)) (b0 : Int) (dc : Option Addr) (dd : Nat) (bv : List Int) (r : Bool) (w : World) (hr0_3 : Kd.C (Kd.int .i64) w av af.length af) (hc0_3 : af.length ≤ aw) (hr0_4 : Kd.C k63 w ax ag.length ag) (hc0_4 : ag.length ≤ ay) (hr0_6 : Kd.C (Kd.int .i64) w az ah.length ah) (hc0_6 : ah.length ≤ ba) (hr1_3 : Kd.C (Kd.int .i64) w bh am.length am) (hc1_3 : am.length ≤ bi) (hr1_4 : Kd.C k63 w bj an.length an) (hc1_4 : an.length ≤ bk) (hr1_6 : Kd.C (Kd.int .i64) w bl ao.length ao) (hc1_6 : ao.length ≤ bm) (hr2_3 : Kd.C (Kd.int .i64) w b8 bt.length bt) (hc2_3 : bt.length ≤ b9) (hr2_4 : Kd.C k63 w da bu.length bu) (hc2_4 : bu.length ≤ db) (hr2_6 : Kd.C (Kd.int .i64) w dc bv.length bv) (hc2_6 : bv.length ≤ dd) (h : whirligiglaw09_AttrOrder.f k ai aj ak af ag al ah ap aq ar am an au ao bw bx bz bt bu b0 bv = some r) :
  Calls Try.prog 4 #[.agg #[.int .i64 ai, .int .i64 aj, .int .i64 ak, .slice av af.length aw, .slice ax ag.length ay, .int .i64 al, .slice az ah.length ba], .agg #[.int .i64 ap, .int .i64 aq, .int .i64 ar, .slice bh am.length bi, .slice bj an.length bk, .int .i64 au, .slice bl ao.length bm], .agg #[.int .i64 bw, .int .i64 bx, .int .i64 bz, .slice b8 bt.length b9, .slice da bu.length db, .int .i64 b0, .slice dc bv.length dd]] w fun e w' => e = .returned (.bool r) ∧ Below w.heap.size w w' := by
 have hu30 := Try.underlying30
 have bb := Aside0.mk hr0_3
 have bc := Aside0.mk hc0_3
 clear hr0_3 hc0_3
 have bd := Aside0.mk hr0_4
 have be := Aside0.mk hc0_4
 clear hr0_4 hc0_4
 have bf := Aside0.mk hr0_6
 have bg := Aside0.mk hc0_6
 clear hr0_6 hc0_6
 have bn := Aside0.mk hr1_3
 have bo := Aside0.mk hc1_3
 clear hr1_3 hc1_3
 have bp := Aside0.mk hr1_4
 have bq := Aside0.mk hc1_4
 clear hr1_4 hc1_4
 have br := Aside0.mk hr1_6
 have bs := Aside0.mk hc1_6
 clear hr1_6 hc1_6
 have dg := Aside0.mk hr2_3
 have dh := Aside0.mk hc2_3
 clear hr2_3 hc2_3
 have di := Aside0.mk hr2_4
 have dj := Aside0.mk hc2_4
 clear hr2_4 hc2_4
 have dk := Aside0.mk hr2_6
 have dl := Aside0.mk hc2_6
 clear hr2_6 hc2_6
 have HB := Aside0.mk (Below.refl w.heap.size w)
 have H := h
 unfold whirligiglaw09_AttrOrder.f at H
 clear h
 have HC4 := Aside0.mk H
 clear H
 go_enter Try.func4, Try.ntmps4
 go_upto_region 1 with (first | ((with_reducible refine gate_dst (N := 3) rfl ?_); refine box_event ?hg (N := 3) ?hd (cs := #[.int .i64 ai, .int .i64 aj, .int .i64 ak, .slice av af.length aw, .slice ax ag.length ay, .int .i64 al, .slice az ah.length ba]) (t := 30) ?hr ?_; (case hd => rfl); (case hg => rfl); (case hr => first | (go_simp; done) | (go_simp; rfl)); intro ac hg w5 hbox hb; have n0_ := Aside0.mk (kc707.z HB.out rfl rfl rfl rfl hb); have n1_ := Aside0.mk (hbox); have n2_ := Aside0.mk ((by rw [hg]; exact (below_size (by repeat (first | (with_reducible first | exact HB.out | apply below_alloc | apply pw_below_drewN | apply below_drew1) | exact HB.out))) : w.heap.size ≤ ac)); have n3_ := Aside0.mk ((by rw [hg]; exact (below_size (by repeat (first | (with_reducible first | exact HB.out | apply below_alloc | apply pw_below_drewN | apply below_drew1) | exact HB.out))) : w.heap.size ≤ ac)); clear HB; have HB := n0_; have aa := n1_; have GW243 := n2_; have GE243 := n3_; clear n0_ n1_ n2_ n3_; clear hb hbox hg) | ((with_reducible refine gate_dst (N := 4) rfl ?_); refine box_event ?hg (N := 4) ?hd (cs := #[.int .i64 ap, .int .i64 aq, .int .i64 ar, .slice bh am.length bi, .slice bj an.length bk, .int .i64 au, .slice bl ao.length bm]) (t := 30) ?hr ?_; (case hd => rfl); (case hg => rfl); (case hr => first | (go_simp; done) | (go_simp; rfl)); intro ae hg w6 hbox hb; have n0_ := Aside0.mk (kc707.q aa.out rfl hb); have n1_ := Aside0.mk (kc707.z HB.out rfl rfl rfl rfl hb); have n2_ := Aside0.mk (hbox); have n3_ := Aside0.mk ((by rw [hg]; exact (below_size (by repeat (first | (with_reducible first | exact HB.out | apply below_alloc | apply pw_below_drewN | apply below_drew1) | exact HB.out))) : w.heap.size ≤ ae)); have n4_ := Aside0.mk ((by rw [hg]; exact (below_size (by repeat (first | (with_reducible first | exact HB.out | apply below_alloc | apply pw_below_drewN | apply below_drew1) | exact HB.out))) : w.heap.size ≤ ae)); have n5_ := Aside0.mk ((by rw [hg]; exact Nat.ne_of_lt (blk_lt (g := ac) (o := .cells #[.int .i64 ai, .int .i64 aj, .int .i64 ak, .slice av af.length aw, .slice ax ag.length ay, .int .i64 al, .slice az ah.length ba] 30 (0, 0)) (by (with_reducible repeat (first | refine blk_drewN ?_ _ | refine blk_drew ?_ | refine blk_alloc ?_ _)); exact aa.out)) : ac ≠ ae)); have n6_ := Aside0.mk ((by rw [hg]; exact Nat.ne_of_gt (blk_lt (g := ac) (o := .cells #[.int .i64 ai, .int .i64 aj, .int .i64 ak, .slice av af.length aw, .slice ax ag.length ay, .int .i64 al, .slice az ah.length ba] 30 (0, 0)) (by (with_reducible repeat (first | refine blk_drewN ?_ _ | refine blk_drew ?_ | refine blk_alloc ?_ _)); exact aa.out)) : ae ≠ ac)); clear aa; clear HB; have aa := n0_; have HB := n1_; have ab := n2_; have GW244 := n3_; have GE244 := n4_; have b1 := n5_; have b2 := n6_; clear n0_ n1_ n2_ n3_ n4_ n5_ n6_; clear hb hbox hg) | ((with_reducible refine gate_dst (N := 5) rfl ?_); refine box_event ?hg (N := 5) ?hd (cs := #[.int .i64 bw, .int .i64 bx, .int .i64 bz, .slice b8 bt.length b9, .slice da bu.length db, .int .i64 b0, .slice dc bv.length dd]) (t := 30) ?hr ?_; (case hd => rfl); (case hg => rfl); (case hr => first | (go_simp; done) | (go_simp; rfl)); intro de hg w7 hbox hb; have n0_ := Aside0.mk (kc707.q aa.out rfl hb); have n1_ := Aside0.mk (kc707.q ab.out rfl hb); have n2_ := Aside0.mk (kc707.z HB.out rfl rfl rfl rfl hb); have n3_ := Aside0.mk (hbox); have n4_ := Aside0.mk ((by rw [hg]; exact (below_size (by repeat (first | (with_reducible first | exact HB.out | apply below_alloc | apply pw_below_drewN | apply below_drew1) | exact HB.out))) : w.heap.size ≤ de)); have n5_ := Aside0.mk ((by rw [hg]; exact (below_size (by repeat (first | (with_reducible first | exact HB.out | apply below_alloc | apply pw_below_drewN | apply below_drew1) | exact HB.out))) : w.heap.size ≤ de)); have n6_ := Aside0.mk ((by rw [hg]; exact Nat.ne_of_lt (blk_lt (g := ac) (o := .cells #[.int .i64 ai, .int .i64 aj, .int .i64 ak, .slice av af.length aw, .slice ax ag.length ay, .int .i64 al, .slice az ah.length ba] 30 (0, 0)) (by (with_reducible repeat (first | refine blk_drewN ?_ _ | refine blk_drew ?_ | refine blk_alloc ?_ _)); exact aa.out)) : ac ≠ de)); have n7_ := Aside0.mk ((by rw [hg]; exact Nat.ne_of_gt (blk_lt (g := ac) (o := .cells #[.int .i64 ai, .int .i64 aj, .int .i64 ak, .slice av af.length aw, .slice ax ag.length ay, .int .i64 al, .slice az ah.length ba] 30 (0, 0)) (by (with_reducible repeat (first | refine blk_drewN ?_ _ | refine blk_drew ?_ | refine blk_alloc ?_ _)); exact aa.out)) : de ≠ ac)); have n8_ := Aside0.mk ((by rw [hg]; exact Nat.ne_of_lt (blk_lt (g := ae) (o := .cells #[.int .i64 ap, .int .i64 aq, .int .i64 ar, .slice bh am.length bi, .slice bj an.length bk, .int .i64 au, .slice bl ao.length bm] 30 (0, 0)) (by (with_reducible repeat (first | refine blk_drewN ?_ _ | refine blk_drew ?_ | refine blk_alloc ?_ _)); exact ab.out)) : ae ≠ de)); have n9_ := Aside0.mk ((by rw [hg]; exact Nat.ne_of_gt (blk_lt (g := ae) (o := .cells #[.int .i64 ap, .int .i64 aq, .int .i64 ar, .slice bh am.length bi, .slice bj an.length bk, .int .i64 au, .slice bl ao.length bm] 30 (0, 0)) (by (with_reducible repeat (first | refine blk_drewN ?_ _ | refine blk_drew ?_ | refine blk_alloc ?_ _)); exact ab.out)) : de ≠ ae)); clear aa; clear ab; clear HB; have aa := n0_; have ab := n1_; have HB := n2_; have ad := n3_; have GW245 := n4_; have GE245 := n5_; have b3 := n6_; have b4 := n7_; have b5 := n8_; have b6 := n9_; clear n0_ n1_ n2_ n3_ n4_ n5_ n6_ n7_ n8_ n9_; clear hb hbox hg))
 (try simp only [Act.put, List.setIfInBounds_toArray, List.set_cons_zero, List.set_cons_succ])
 go_cut [22] (fun v22 wc => ∃ (kq : Nat) (x22_3 : Bool), v22 = .bool x22_3 ∧ Aside0 (whirligiglaw09_AttrOrder.j0 kq x22_3 ai aj ak af ag al ah ap aq ar am an au ao bw bx bz bt bu b0 bv = some r) ∧ Aside0 (kq ≤ k) ∧ Aside0 (wc.heap[ac]? = some (.cells #[.int .i64 ai, .int .i64 aj, .int .i64 ak, (.slice av af.length aw), (.slice ax ag.length ay), .int .i64 al, (.slice az ah.length ba)] 30 (0, 0))) ∧ Aside0 (wc.heap[ae]? = some (.cells #[.int .i64 ap, .int .i64 aq, .int .i64 ar, (.slice bh am.length bi), (.slice bj an.length bk), .int .i64 au, (.slice bl ao.length bm)] 30 (0, 0))) ∧ Aside0 (wc.heap[de]? = some (.cells #[.int .i64 bw, .int .i64 bx, .int .i64 bz, (.slice b8 bt.length b9), (.slice da bu.length db), .int .i64 b0, (.slice dc bv.length dd)] 30 (0, 0))) ∧ Aside0 (Below w.heap.size w wc))
 case first =>
  have H := HC4.out
  clear HC4
  replace H := Option.bind_eq_some_iff.mp H
  obtain ⟨t246, A80, H⟩ := H
  (try dsimp only at H)
  have A8 := Aside0.mk A80
  clear A80
  by_cases c9 : t246 = true
  ·subst c9
   have H1 := H
   rw [if_pos rfl] at H1
   clear H
   have H := H1
   clear H1
   replace H := Option.bind_eq_some_iff.mp H
   obtain ⟨t247, A100, H⟩ := H
   (try dsimp only at H)
   have A10 := Aside0.mk A100
   clear A100
   by_cases c11 : t247 = true
   ·subst c11
    have H1 := H
    rw [if_pos rfl] at H1
    clear H
    have H := H1
    clear H1
    replace H := Option.bind_eq_some_iff.mp H
    obtain ⟨t248, A120, H⟩ := H
    (try dsimp only at H)
    have A12 := Aside0.mk A120
    clear A120
    have H' := Aside0.mk H
    clear H
    have hnb13 := b1.out
    have hnc13 := b2.out
    have hnb14 := b3.out
    have hnc14 := b4.out
    have hcz15_0 : w7.cell? ⟨ac, 0, none⟩ = some (.int .i64 ai) := (blk_cell aa.out 0).trans rfl
    have hcz15_1 : w7.cell? ⟨ac, 1, none⟩ = some (.int .i64 aj) := (blk_cell aa.out 1).trans rfl
    have hcz15_2 : w7.cell? ⟨ac, 2, none⟩ = some (.int .i64 ak) := (blk_cell aa.out 2).trans rfl
    have hcz15_3 : w7.cell? ⟨ac, 3, none⟩ = some (.slice av af.length aw) := (blk_cell aa.out 3).trans rfl
    have hcz15_4 : w7.cell? ⟨ac, 4, none⟩ = some (.slice ax ag.length ay) := (blk_cell aa.out 4).trans rfl
    have hcz15_5 : w7.cell? ⟨ac, 5, none⟩ = some (.int .i64 al) := (blk_cell aa.out 5).trans rfl
    have hcz15_6 : w7.cell? ⟨ac, 6, none⟩ = some (.slice az ah.length ba) := (blk_cell aa.out 6).trans rfl
    have hfz15_0 := blk_frozen aa.out 0
    have hfz15_1 := blk_frozen aa.out 1
    have hfz15_2 := blk_frozen aa.out 2
    have hfz15_3 := blk_frozen aa.out 3
    have hfz15_4 := blk_frozen aa.out 4
    have hfz15_5 := blk_frozen aa.out 5
    have hfz15_6 := blk_frozen aa.out 6
    go_wp2_with (first | ((with_reducible refine gate_callee (f := 11) rfl ?_); refine goesL_ (some 11) rfl rfl Try.func11 (by kernel_rfl) rfl #[.agg #[.int .i64 ai, .int .i64 aj, .int .i64 ak, .slice av af.length aw, .slice ax ag.length ay, .int .i64 al, .slice az ah.length ba]] rfl (by (try simp only [List.map_toArray, List.map_cons, List.map_nil]); first | done | rfl) ?_; (with_reducible refine (whirligigref09_Few.calls ai aj ak _ _ af _ _ ag al _ _ ah true _ ?side1 ?side2 ?side3 ?side4 ?side5 ?side6 A8.out).mono ?_); (case side1 | side3 | side5 => repeat (first | exact (Kd.C_below bb.out HB.out) | exact (Kd.C_below bd.out HB.out) | exact (Kd.C_below bf.out HB.out) | (with_reducible refine Kd.C_alloc ?_ _) | (with_reducible refine Kd.C_drewN ?_ _) | (with_reducible refine Kd.C_drew ?_))); (case side2 | side4 | side6 => first | exact bc.out | exact be.out | exact bg.out); rintro e w16 ⟨rfl, hb⟩; refine ⟨_, rfl, ?_⟩; replace aa := Aside0.mk (kc707.q aa.out rfl hb); replace ab := Aside0.mk (kc707.q ab.out rfl hb); replace ad := Aside0.mk (kc707.q ad.out rfl hb); replace HB := Aside0.mk (kc707.z HB.out rfl rfl rfl rfl hb); (try clear hb); (try clear df); (try clear hk); (try clear hi); have hnb17 := b5.out; have hnc17 := b6.out; have hcz18_0 : w16.cell? ⟨ae, 0, none⟩ = some (.int .i64 ap) := (blk_cell ab.out 0).trans rfl; have hcz18_1 : w16.cell? ⟨ae, 1, none⟩ = some (.int .i64 aq) := (blk_cell ab.out 1).trans rfl; have hcz18_2 : w16.cell? ⟨ae, 2, none⟩ = some (.int .i64 ar) := (blk_cell ab.out 2).trans rfl; have hcz18_3 : w16.cell? ⟨ae, 3, none⟩ = some (.slice bh am.length bi) := (blk_cell ab.out 3).trans rfl; have hcz18_4 : w16.cell? ⟨ae, 4, none⟩ = some (.slice bj an.length bk) := (blk_cell ab.out 4).trans rfl; have hcz18_5 : w16.cell? ⟨ae, 5, none⟩ = some (.int .i64 au) := (blk_cell ab.out 5).trans rfl; have hcz18_6 : w16.cell? ⟨ae, 6, none⟩ = some (.slice bl ao.length bm) := (blk_cell ab.out 6).trans rfl; have hfz18_0 := blk_frozen ab.out 0; have hfz18_1 := blk_frozen ab.out 1; have hfz18_2 := blk_frozen ab.out 2; have hfz18_3 := blk_frozen ab.out 3; have hfz18_4 := blk_frozen ab.out 4; have hfz18_5 := blk_frozen ab.out 5; have hfz18_6 := blk_frozen ab.out 6) | (go_at_call 11; (with_reducible refine (whirligigref09_Few.calls ap aq ar _ _ am _ _ an au _ _ ao true _ ?side1 ?side2 ?side3 ?side4 ?side5 ?side6 A10.out).mono ?_); (case side1 | side3 | side5 => repeat (first | exact (Kd.C_below bn.out HB.out) | exact (Kd.C_below bp.out HB.out) | exact (Kd.C_below br.out HB.out) | (with_reducible refine Kd.C_alloc ?_ _) | (with_reducible refine Kd.C_drewN ?_ _) | (with_reducible refine Kd.C_drew ?_))); (case side2 | side4 | side6 => first | exact bo.out | exact bq.out | exact bs.out); rintro e w19 ⟨rfl, hb⟩; replace aa := Aside0.mk (kc707.q aa.out rfl hb); replace ab := Aside0.mk (kc707.q ab.out rfl hb); replace ad := Aside0.mk (kc707.q ad.out rfl hb); replace HB := Aside0.mk (kc707.z HB.out rfl rfl rfl rfl hb); (try clear hb); (try clear df); (try clear hk); (try clear hi); have hcz20_0 : w19.cell? ⟨de, 0, none⟩ = some (.int .i64 bw) := (blk_cell ad.out 0).trans rfl; have hcz20_1 : w19.cell? ⟨de, 1, none⟩ = some (.int .i64 bx) := (blk_cell ad.out 1).trans rfl; have hcz20_2 : w19.cell? ⟨de, 2, none⟩ = some (.int .i64 bz) := (blk_cell ad.out 2).trans rfl; have hcz20_3 : w19.cell? ⟨de, 3, none⟩ = some (.slice b8 bt.length b9) := (blk_cell ad.out 3).trans rfl; have hcz20_4 : w19.cell? ⟨de, 4, none⟩ = some (.slice da bu.length db) := (blk_cell ad.out 4).trans rfl; have hcz20_5 : w19.cell? ⟨de, 5, none⟩ = some (.int .i64 b0) := (blk_cell ad.out 5).trans rfl; have hcz20_6 : w19.cell? ⟨de, 6, none⟩ = some (.slice dc bv.length dd) := (blk_cell ad.out 6).trans rfl; have hfz20_0 := blk_frozen ad.out 0; have hfz20_1 := blk_frozen ad.out 1; have hfz20_2 := blk_frozen ad.out 2; have hfz20_3 := blk_frozen ad.out 3; have hfz20_4 := blk_frozen ad.out 4; have hfz20_5 := blk_frozen ad.out 5; have hfz20_6 := blk_frozen ad.out 6) | (go_at_call 11; (with_reducible refine (whirligigref09_Few.calls bw bx bz _ _ bt _ _ bu b0 _ _ bv t248 _ ?side1 ?side2 ?side3 ?side4 ?side5 ?side6 A12.out).mono ?_); (case side1 | side3 | side5 => repeat (first | exact (Kd.C_below dg.out HB.out) | exact (Kd.C_below di.out HB.out) | exact (Kd.C_below dk.out HB.out) | (with_reducible refine Kd.C_alloc ?_ _) | (with_reducible refine Kd.C_drewN ?_ _) | (with_reducible refine Kd.C_drew ?_))); (case side2 | side4 | side6 => first | exact dh.out | exact dj.out | exact dl.out); rintro e w21 ⟨rfl, hb⟩; replace aa := Aside0.mk (kc707.q aa.out rfl hb); replace ab := Aside0.mk (kc707.q ab.out rfl hb); replace ad := Aside0.mk (kc707.q ad.out rfl hb); replace HB := Aside0.mk (kc707.z HB.out rfl rfl rfl rfl hb); (try clear hb); (try clear df); (try clear hk); (try clear hi)))
    go_meet
    case rel => exact ⟨_, (!t248), (by first | rfl | (simp; done) | (simp [*]; done)), H', ⟨by first | omega | exact Nat.le_refl _⟩, ⟨by (with_reducible repeat (first | refine blk_drewN ?_ _ | refine blk_drew ?_ | refine blk_alloc ?_ _)); exact aa.out⟩, ⟨by (with_reducible repeat (first | refine blk_drewN ?_ _ | refine blk_drew ?_ | refine blk_alloc ?_ _)); exact ab.out⟩, ⟨by (with_reducible repeat (first | refine blk_drewN ?_ _ | refine blk_drew ?_ | refine blk_alloc ?_ _)); exact ad.out⟩, ⟨by repeat (first | (with_reducible first | exact HB.out | apply below_alloc | apply pw_below_drewN | apply below_drew1) | exact HB.out)⟩⟩
   ·replace c11 := Bool.eq_false_iff.mpr c11
    subst c11
    have H1 := H
    rw [if_neg (show ¬ (false = true) by decide)] at H1
    clear H
    have H := H1
    clear H1
    have H' := Aside0.mk H
    clear H
    have hnb22 := b1.out
    have hnc22 := b2.out
    have hnb23 := b3.out
    have hnc23 := b4.out
    have hcz24_0 : w7.cell? ⟨ac, 0, none⟩ = some (.int .i64 ai) := (blk_cell aa.out 0).trans rfl
    have hcz24_1 : w7.cell? ⟨ac, 1, none⟩ = some (.int .i64 aj) := (blk_cell aa.out 1).trans rfl
    have hcz24_2 : w7.cell? ⟨ac, 2, none⟩ = some (.int .i64 ak) := (blk_cell aa.out 2).trans rfl
    have hcz24_3 : w7.cell? ⟨ac, 3, none⟩ = some (.slice av af.length aw) := (blk_cell aa.out 3).trans rfl
    have hcz24_4 : w7.cell? ⟨ac, 4, none⟩ = some (.slice ax ag.length ay) := (blk_cell aa.out 4).trans rfl
    have hcz24_5 : w7.cell? ⟨ac, 5, none⟩ = some (.int .i64 al) := (blk_cell aa.out 5).trans rfl
    have hcz24_6 : w7.cell? ⟨ac, 6, none⟩ = some (.slice az ah.length ba) := (blk_cell aa.out 6).trans rfl
    have hfz24_0 := blk_frozen aa.out 0
    have hfz24_1 := blk_frozen aa.out 1
    have hfz24_2 := blk_frozen aa.out 2
    have hfz24_3 := blk_frozen aa.out 3
    have hfz24_4 := blk_frozen aa.out 4
    have hfz24_5 := blk_frozen aa.out 5
    have hfz24_6 := blk_frozen aa.out 6
    go_wp2_with (first | ((with_reducible refine gate_callee (f := 11) rfl ?_); refine goesL_ (some 11) rfl rfl Try.func11 (by kernel_rfl) rfl #[.agg #[.int .i64 ai, .int .i64 aj, .int .i64 ak, .slice av af.length aw, .slice ax ag.length ay, .int .i64 al, .slice az ah.length ba]] rfl (by (try simp only [List.map_toArray, List.map_cons, List.map_nil]); first | done | rfl) ?_; (with_reducible refine (whirligigref09_Few.calls ai aj ak _ _ af _ _ ag al _ _ ah true _ ?side1 ?side2 ?side3 ?side4 ?side5 ?side6 A8.out).mono ?_); (case side1 | side3 | side5 => repeat (first | exact (Kd.C_below bb.out HB.out) | exact (Kd.C_below bd.out HB.out) | exact (Kd.C_below bf.out HB.out) | (with_reducible refine Kd.C_alloc ?_ _) | (with_reducible refine Kd.C_drewN ?_ _) | (with_reducible refine Kd.C_drew ?_))); (case side2 | side4 | side6 => first | exact bc.out | exact be.out | exact bg.out); rintro e w25 ⟨rfl, hb⟩; refine ⟨_, rfl, ?_⟩; replace aa := Aside0.mk (kc707.q aa.out rfl hb); replace ab := Aside0.mk (kc707.q ab.out rfl hb); replace ad := Aside0.mk (kc707.q ad.out rfl hb); replace HB := Aside0.mk (kc707.z HB.out rfl rfl rfl rfl hb); (try clear hb); (try clear df); (try clear hk); (try clear hi); have hnb26 := b5.out; have hnc26 := b6.out; have hcz27_0 : w25.cell? ⟨ae, 0, none⟩ = some (.int .i64 ap) := (blk_cell ab.out 0).trans rfl; have hcz27_1 : w25.cell? ⟨ae, 1, none⟩ = some (.int .i64 aq) := (blk_cell ab.out 1).trans rfl; have hcz27_2 : w25.cell? ⟨ae, 2, none⟩ = some (.int .i64 ar) := (blk_cell ab.out 2).trans rfl; have hcz27_3 : w25.cell? ⟨ae, 3, none⟩ = some (.slice bh am.length bi) := (blk_cell ab.out 3).trans rfl; have hcz27_4 : w25.cell? ⟨ae, 4, none⟩ = some (.slice bj an.length bk) := (blk_cell ab.out 4).trans rfl; have hcz27_5 : w25.cell? ⟨ae, 5, none⟩ = some (.int .i64 au) := (blk_cell ab.out 5).trans rfl; have hcz27_6 : w25.cell? ⟨ae, 6, none⟩ = some (.slice bl ao.length bm) := (blk_cell ab.out 6).trans rfl; have hfz27_0 := blk_frozen ab.out 0; have hfz27_1 := blk_frozen ab.out 1; have hfz27_2 := blk_frozen ab.out 2; have hfz27_3 := blk_frozen ab.out 3; have hfz27_4 := blk_frozen ab.out 4; have hfz27_5 := blk_frozen ab.out 5; have hfz27_6 := blk_frozen ab.out 6) | (go_at_call 11; (with_reducible refine (whirligigref09_Few.calls ap aq ar _ _ am _ _ an au _ _ ao false _ ?side1 ?side2 ?side3 ?side4 ?side5 ?side6 A10.out).mono ?_); (case side1 | side3 | side5 => repeat (first | exact (Kd.C_below bn.out HB.out) | exact (Kd.C_below bp.out HB.out) | exact (Kd.C_below br.out HB.out) | (with_reducible refine Kd.C_alloc ?_ _) | (with_reducible refine Kd.C_drewN ?_ _) | (with_reducible refine Kd.C_drew ?_))); (case side2 | side4 | side6 => first | exact bo.out | exact bq.out | exact bs.out); rintro e w28 ⟨rfl, hb⟩; replace aa := Aside0.mk (kc707.q aa.out rfl hb); replace ab := Aside0.mk (kc707.q ab.out rfl hb); replace ad := Aside0.mk (kc707.q ad.out rfl hb); replace HB := Aside0.mk (kc707.z HB.out rfl rfl rfl rfl hb); (try clear hb); (try clear df); (try clear hk); (try clear hi)))
    go_meet
    case rel => exact ⟨_, (true), (by first | rfl | (simp; done) | (simp [*]; done)), H', ⟨by first | omega | exact Nat.le_refl _⟩, ⟨by (with_reducible repeat (first | refine blk_drewN ?_ _ | refine blk_drew ?_ | refine blk_alloc ?_ _)); exact aa.out⟩, ⟨by (with_reducible repeat (first | refine blk_drewN ?_ _ | refine blk_drew ?_ | refine blk_alloc ?_ _)); exact ab.out⟩, ⟨by (with_reducible repeat (first | refine blk_drewN ?_ _ | refine blk_drew ?_ | refine blk_alloc ?_ _)); exact ad.out⟩, ⟨by repeat (first | (with_reducible first | exact HB.out | apply below_alloc | apply pw_below_drewN | apply below_drew1) | exact HB.out)⟩⟩
  ·replace c9 := Bool.eq_false_iff.mpr c9
   subst c9
   have H1 := H
   rw [if_neg (show ¬ (false = true) by decide)] at H1
   clear H
   have H := H1
   clear H1
   have H' := Aside0.mk H
   clear H
   have hnb29 := b1.out
   have hnc29 := b2.out
   have hnb30 := b3.out
   have hnc30 := b4.out
   have hcz31_0 : w7.cell? ⟨ac, 0, none⟩ = some (.int .i64 ai) := (blk_cell aa.out 0).trans rfl
   have hcz31_1 : w7.cell? ⟨ac, 1, none⟩ = some (.int .i64 aj) := (blk_cell aa.out 1).trans rfl
   have hcz31_2 : w7.cell? ⟨ac, 2, none⟩ = some (.int .i64 ak) := (blk_cell aa.out 2).trans rfl
   have hcz31_3 : w7.cell? ⟨ac, 3, none⟩ = some (.slice av af.length aw) := (blk_cell aa.out 3).trans rfl
   have hcz31_4 : w7.cell? ⟨ac, 4, none⟩ = some (.slice ax ag.length ay) := (blk_cell aa.out 4).trans rfl
   have hcz31_5 : w7.cell? ⟨ac, 5, none⟩ = some (.int .i64 al) := (blk_cell aa.out 5).trans rfl
   have hcz31_6 : w7.cell? ⟨ac, 6, none⟩ = some (.slice az ah.length ba) := (blk_cell aa.out 6).trans rfl
   have hfz31_0 := blk_frozen aa.out 0
   have hfz31_1 := blk_frozen aa.out 1
   have hfz31_2 := blk_frozen aa.out 2
   have hfz31_3 := blk_frozen aa.out 3
   have hfz31_4 := blk_frozen aa.out 4
   have hfz31_5 := blk_frozen aa.out 5
   have hfz31_6 := blk_frozen aa.out 6
   go_wp2_with (first | ((with_reducible refine gate_callee (f := 11) rfl ?_); refine goesL_ (some 11) rfl rfl Try.func11 (by kernel_rfl) rfl #[.agg #[.int .i64 ai, .int .i64 aj, .int .i64 ak, .slice av af.length aw, .slice ax ag.length ay, .int .i64 al, .slice az ah.length ba]] rfl (by (try simp only [List.map_toArray, List.map_cons, List.map_nil]); first | done | rfl) ?_; (with_reducible refine (whirligigref09_Few.calls ai aj ak _ _ af _ _ ag al _ _ ah false _ ?side1 ?side2 ?side3 ?side4 ?side5 ?side6 A8.out).mono ?_); (case side1 | side3 | side5 => repeat (first | exact (Kd.C_below bb.out HB.out) | exact (Kd.C_below bd.out HB.out) | exact (Kd.C_below bf.out HB.out) | (with_reducible refine Kd.C_alloc ?_ _) | (with_reducible refine Kd.C_drewN ?_ _) | (with_reducible refine Kd.C_drew ?_))); (case side2 | side4 | side6 => first | exact bc.out | exact be.out | exact bg.out); rintro e w32 ⟨rfl, hb⟩; refine ⟨_, rfl, ?_⟩; replace aa := Aside0.mk (kc707.q aa.out rfl hb); replace ab := Aside0.mk (kc707.q ab.out rfl hb); replace ad := Aside0.mk (kc707.q ad.out rfl hb); replace HB := Aside0.mk (kc707.z HB.out rfl rfl rfl rfl hb); (try clear hb); (try clear df); (try clear hk); (try clear hi)))
   go_meet
   case rel => exact ⟨_, (true), (by first | rfl | (simp; done) | (simp [*]; done)), H', ⟨by first | omega | exact Nat.le_refl _⟩, ⟨by (with_reducible repeat (first | refine blk_drewN ?_ _ | refine blk_drew ?_ | refine blk_alloc ?_ _)); exact aa.out⟩, ⟨by (with_reducible repeat (first | refine blk_drewN ?_ _ | refine blk_drew ?_ | refine blk_alloc ?_ _)); exact ab.out⟩, ⟨by (with_reducible repeat (first | refine blk_drewN ?_ _ | refine blk_drew ?_ | refine blk_alloc ?_ _)); exact ad.out⟩, ⟨by repeat (first | (with_reducible first | exact HB.out | apply below_alloc | apply pw_below_drewN | apply below_drew1) | exact HB.out)⟩⟩
 case rest =>
  clear HC4
  try clear c1
  try clear c2
  try clear p2
  try clear c3
  try clear c4
  try clear c9
  try clear c11
  try clear c13
  try clear c14
  try clear c17
  try clear c22
  try clear c23
  try clear c26
  try clear c29
  try clear c30
  try clear hcz15_0
  try clear hcz15_1
  try clear hcz15_2
  try clear hcz15_3
  try clear hcz15_4
  try clear hcz15_5
  try clear hcz15_6
  try clear hcz18_0
  try clear hcz18_1
  try clear hcz18_2
  try clear hcz18_3
  try clear hcz18_4
  try clear hcz18_5
  try clear hcz18_6
  try clear hcz20_0
  try clear hcz20_1
  try clear hcz20_2
  try clear hcz20_3
  try clear hcz20_4
  try clear hcz20_5
  try clear hcz20_6
  try clear hcz24_0
  try clear hcz24_1
  try clear hcz24_2
  try clear hcz24_3
  try clear hcz24_4
  try clear hcz24_5
  try clear hcz24_6
  try clear hcz27_0
  try clear hcz27_1
  try clear hcz27_2
  try clear hcz27_3
  try clear hcz27_4
  try clear hcz27_5
  try clear hcz27_6
  try clear hcz31_0
  try clear hcz31_1
  try clear hcz31_2
  try clear hcz31_3
  try clear hcz31_4
  try clear hcz31_5
  try clear hcz31_6
  try clear hfz15_0
  try clear hfz15_1
  try clear hfz15_2
  try clear hfz15_3
  try clear hfz15_4
  try clear hfz15_5
  try clear hfz15_6
  try clear hfz18_0
  try clear hfz18_1
  try clear hfz18_2
  try clear hfz18_3
  try clear hfz18_4
  try clear hfz18_5
  try clear hfz18_6
  try clear hfz20_0
  try clear hfz20_1
  try clear hfz20_2
  try clear hfz20_3
  try clear hfz20_4
  try clear hfz20_5
  try clear hfz20_6
  try clear hfz24_0
  try clear hfz24_1
  try clear hfz24_2
  try clear hfz24_3
  try clear hfz24_4
  try clear hfz24_5
  try clear hfz24_6
  try clear hfz27_0
  try clear hfz27_1
  try clear hfz27_2
  try clear hfz27_3
  try clear hfz27_4
  try clear hfz27_5
  try clear hfz27_6
  try clear hfz31_0
  try clear hfz31_1
  try clear hfz31_2
  try clear hfz31_3
  try clear hfz31_4
  try clear hfz31_5
  try clear hfz31_6
  obtain ⟨kq, x22_3, rfl, HA, HJ3, aa, ab, ad, HB⟩ := hcut
  cases kq with
  | zero => exact absurd HA.out (by simp [whirligiglaw09_AttrOrder.j0])
  | succ dm =>
   have H := HA.out
   clear HA
   simp only [whirligiglaw09_AttrOrder.j0] at H
   by_cases c33 : x22_3 = true
   ·subst c33
    have H1 : ((whirligiglaw09_lives.f dm).bind fun t249 => (some t249)) = some r := by rw [if_pos rfl] at H; exact H
    clear H
    have H := H1
    clear H1
    replace H := Option.bind_eq_some_iff.mp H
    obtain ⟨t249, A340, H⟩ := H
    replace H : (some t249) = some r := H
    have A34 := Aside0.mk A340
    clear A340
    obtain rfl := Option.some.inj H
    go_wp2_with (first | ((with_reducible refine gate_callee (f := 10) rfl ?_); refine goesL_ (some 23) rfl rfl Try.func10 (by kernel_rfl) rfl #[] rfl (by (try simp only [List.map_toArray, List.map_cons, List.map_nil]); first | done | rfl) ?_; (with_reducible refine (whirligiglaw09_lives.calls dm  t249 _ A34.out).mono ?_); rintro e w35 ⟨rfl, hb⟩; refine ⟨_, rfl, ?_⟩; replace aa := Aside0.mk (kc707.q aa.out rfl hb); replace ab := Aside0.mk (kc707.q ab.out rfl hb); replace ad := Aside0.mk (kc707.q ad.out rfl hb); replace HB := Aside0.mk (kc707.z HB.out rfl rfl rfl rfl hb); (try clear hb); (try clear df); (try clear hk); (try clear hi)))
    go_ret
    exact ⟨by first | rfl | (simp [errW_none, errW_some] <;> rfl) | (simp [*, errW_none, errW_some] <;> rfl), by repeat (first | (with_reducible first | exact HB.out | apply below_alloc | apply pw_below_drewN | apply below_drew1) | exact HB.out)⟩
   ·replace c33 := Bool.eq_false_iff.mpr c33
    subst c33
    have H1 := H
    rw [if_neg (show ¬ (false = true) by decide)] at H1
    clear H
    have H := H1
    clear H1
    replace H := Option.bind_eq_some_iff.mp H
    obtain ⟨t250, A360, H⟩ := H
    (try dsimp only at H)
    have dn := Aside0.mk A360
    clear A360
    replace H := Option.bind_eq_some_iff.mp H
    obtain ⟨t251, A370, H⟩ := H
    (try dsimp only at H)
    have dp := Aside0.mk A370
    clear A370
    replace H := Option.bind_eq_some_iff.mp H
    obtain ⟨t252, A380, H⟩ := H
    (try dsimp only at H)
    have dq := Aside0.mk A380
    clear A380
    replace H := Option.bind_eq_some_iff.mp H
    obtain ⟨t253, A390, H⟩ := H
    (try dsimp only at H)
    have dr := Aside0.mk A390
    clear A390
    by_cases c40 : t250 = t253
    ·rw [if_pos c40] at H
     have c40b0 : (t250 == t253) = true := beq_iff_eq.mpr c40
     have c40b1 : (t250 != t253) = false := bne_eq_false_iff_eq.mpr c40
     clear c40
     replace H := Option.bind_eq_some_iff.mp H
     obtain ⟨t254, A410, H⟩ := H
     (try dsimp only at H)
     have dt := Aside0.mk A410
     clear A410
     by_cases c42 : t254 = (wrap64 (-t250))
     ·rw [if_pos c42] at H
      have c42b0 : (t254 == (wrap64 (-t250))) = true := beq_iff_eq.mpr c42
      have c42b1 : (t254 != (wrap64 (-t250))) = false := bne_eq_false_iff_eq.mpr c42
      clear c42
      replace H := Option.bind_eq_some_iff.mp H
      obtain ⟨t255, A430, H⟩ := H
      (try dsimp only at H)
      have du := Aside0.mk A430
      clear A430
      by_cases c44 : t255 = 0
      ·rw [if_pos c44] at H
       have c44b0 : (t255 == 0) = true := beq_iff_eq.mpr c44
       have c44b1 : (t255 != 0) = false := bne_eq_false_iff_eq.mpr c44
       clear c44
       by_cases c45 : t250 > 0
       ·rw [if_pos c45] at H
        have c45b0 : decide (0 < t250) = true := decide_eq_true c45
        clear c45
        replace H := Option.bind_eq_some_iff.mp H
        obtain ⟨t256, A460, H⟩ := H
        replace H : (some t256) = some r := H
        have A46 := Aside0.mk A460
        clear A460
        obtain rfl := Option.some.inj H
        try go_wp2
        replace aa := Aside0.mk (blk_drew aa.out)
        replace ab := Aside0.mk (blk_drew ab.out)
        replace ad := Aside0.mk (blk_drew ad.out)
        replace HB := Aside0.mk (below_drew1 HB.out)
        refine start_ (n := 12) (S := kc707.S0 ac ae de (.int .i64 ai) (.int .i64 aj) (.int .i64 ak) (.slice av af.length aw) (.slice ax ag.length ay) (.int .i64 al) (.slice az ah.length ba) (.int .i64 ap) (.int .i64 aq) (.int .i64 ar) (.slice bh am.length bi) (.slice bj an.length bk) (.int .i64 au) (.slice bl ao.length bm) (.int .i64 bw) (.int .i64 bx) (.int .i64 bz) (.slice b8 bt.length b9) (.slice da bu.length db) (.int .i64 b0) (.slice dc bv.length dd)) (ds := []) #[false, false, false, false, false, false, false, false, false, false, false, false] (by kernel_rfl) rfl rfl (kc707.b7 aa.out (kc707.b7 ab.out (kc707.b7e ad.out))) (fun hHeld => ?_); refine with_tabW whirligiglaw09_AttrOrder.tab3 whirligiglaw09_AttrOrder.bits3 (fun HT_ HW_ => ?_)
        generalize wc.drew = w47 at aa ab ad HB hHeld ⊢
        refine take_ (i := 0) (N := some 24) (v := ?_) (a' := ?_) #[true, false, false, false, false, false, false, false, false, false, false, false] rfl rfl (take_ofW HT_.out HW_.out (by kernel_rfl)) (fun _ _ _ h => h) (Or.inl ⟨by rfl, ?_⟩) hHeld ?_ ?_
        rotate_left
        ·rintro w' ⟨s0, s1, s2, s3, s4, s5, s6, s7, s8, s9, s10, s11, s12, s13, s14, s15, s16, s17, s18, s19, s20⟩
         go_simp
         with_reducible rfl
        rotate_left
        ·simp only [Act.put, List.setIfInBounds_toArray, List.set_cons_zero, List.set_cons_succ, i64_w, i32_w]
         rfl
        refine take_ (i := 1) (N := some 25) (v := ?_) (a' := ?_) #[true, true, false, false, false, false, false, false, false, false, false, false] rfl rfl (take_ofW HT_.out HW_.out (by kernel_rfl)) (fun _ _ _ h => h) (Or.inl ⟨by rfl, ?_⟩) hHeld ?_ ?_
        rotate_left
        ·rintro w' ⟨s0, s1, s2, s3, s4, s5, s6, s7, s8, s9, s10, s11, s12, s13, s14, s15, s16, s17, s18, s19, s20⟩
         go_simp
         with_reducible rfl
        rotate_left
        ·simp only [Act.put, List.setIfInBounds_toArray, List.set_cons_zero, List.set_cons_succ, i64_w, i32_w]
         rfl
        refine take_ (i := 3) (N := some 27) (v := ?_) (a' := ?_) #[true, true, false, true, false, false, false, false, false, false, false, false] rfl rfl (take_ofW HT_.out HW_.out (by kernel_rfl)) (fun _ _ _ h => h) (Or.inl ⟨by rfl, ?_⟩) hHeld ?_ ?_
        rotate_left
        ·rintro w' ⟨s0, s1, s2, s3, s4, s5, s6, s7, s8, s9, s10, s11, s12, s13, s14, s15, s16, s17, s18, s19, s20⟩
         go_simp
         with_reducible rfl
        rotate_left
        ·simp only [Act.put, List.setIfInBounds_toArray, List.set_cons_zero, List.set_cons_succ, i64_w, i32_w]
         rfl
        refine take_ (i := 4) (N := some 28) (v := ?_) (a' := ?_) #[true, true, false, true, true, false, false, false, false, false, false, false] rfl rfl (take_ofW HT_.out HW_.out (by kernel_rfl)) (fun _ _ _ h => h) (Or.inl ⟨by rfl, ?_⟩) hHeld ?_ ?_
        rotate_left
        ·rintro w' ⟨s0, s1, s2, s3, s4, s5, s6, s7, s8, s9, s10, s11, s12, s13, s14, s15, s16, s17, s18, s19, s20⟩
         go_simp
         with_reducible rfl
        rotate_left
        ·simp only [Act.put, List.setIfInBounds_toArray, List.set_cons_zero, List.set_cons_succ, i64_w, i32_w]
         rfl
        refine take_ (i := 6) (N := some 30) (v := ?_) (a' := ?_) #[true, true, false, true, true, false, true, false, false, false, false, false] rfl rfl (take_ofW HT_.out HW_.out (by kernel_rfl)) (fun _ _ _ h => h) (Or.inl ⟨by rfl, ?_⟩) hHeld ?_ ?_
        rotate_left
        ·rintro w' ⟨s0, s1, s2, s3, s4, s5, s6, s7, s8, s9, s10, s11, s12, s13, s14, s15, s16, s17, s18, s19, s20⟩
         go_simp
         with_reducible rfl
        rotate_left
        ·simp only [Act.put, List.setIfInBounds_toArray, List.set_cons_zero, List.set_cons_succ, i64_w, i32_w]
         rfl
        refine take_ (i := 7) (N := some 31) (v := ?_) (a' := ?_) #[true, true, false, true, true, false, true, true, false, false, false, false] rfl rfl (take_ofW HT_.out HW_.out (by kernel_rfl)) (fun _ _ _ h => h) (Or.inl ⟨by rfl, ?_⟩) hHeld ?_ ?_
        rotate_left
        ·rintro w' ⟨s0, s1, s2, s3, s4, s5, s6, s7, s8, s9, s10, s11, s12, s13, s14, s15, s16, s17, s18, s19, s20⟩
         go_simp
         with_reducible rfl
        rotate_left
        ·simp only [Act.put, List.setIfInBounds_toArray, List.set_cons_zero, List.set_cons_succ, i64_w, i32_w]
         rfl
        refine one_ (i := 2) (N := some 26) #[true, true, true, true, true, false, true, true, false, false, false, false] rfl rfl (one_of HT_.out (by kernel_rfl)) (by decide) (fun K hK => ?_)
        refine goes_ Try.func12 (by kernel_rfl) rfl #[.agg #[.int .i64 ai, .int .i64 aj, .int .i64 ak, .slice av af.length aw, .slice ax ag.length ay, .int .i64 al, .slice az ah.length ba], .agg #[.int .i64 ap, .int .i64 aq, .int .i64 ar, .slice bh am.length bi, .slice bj an.length bk, .int .i64 au, .slice bl ao.length bm]] (by rfl) rfl rfl (by (try simp only [List.map_toArray, List.map_cons, List.map_nil]); first | done | rfl) ?_
        with_reducible refine (attr_Compare.calls dm ai aj ak _ _ af _ _ ag al _ _ ah ap aq ar _ _ am _ _ an au _ _ ao t250 _ ?side1 ?side2 ?side3 ?side4 ?side5 ?side6 ?side7 ?side8 ?side9 ?side10 ?side11 ?side12 dn.out).mono ?_
        (case side1 | side3 | side5 | side7 | side9 | side11 => repeat (first | exact (Kd.C_below bb.out HB.out) | exact (Kd.C_below bd.out HB.out) | exact (Kd.C_below bf.out HB.out) | exact (Kd.C_below bn.out HB.out) | exact (Kd.C_below bp.out HB.out) | exact (Kd.C_below br.out HB.out) | (with_reducible refine Kd.C_alloc ?_ _) | (with_reducible refine Kd.C_drewN ?_ _) | (with_reducible refine Kd.C_drew ?_)))
        (case side2 | side4 | side6 | side8 | side10 | side12 => first | exact bc.out | exact be.out | exact bg.out | exact bo.out | exact bq.out | exact bs.out)
        rintro e w48 ⟨rfl, hb⟩
        refine ⟨_, rfl, ?_⟩
        replace aa := Aside0.mk (kc707.q aa.out rfl hb)
        replace ab := Aside0.mk (kc707.q ab.out rfl hb)
        replace ad := Aside0.mk (kc707.q ad.out rfl hb)
        replace HB := Aside0.mk (kc707.z HB.out rfl rfl rfl rfl hb)
        (try clear hb)
        (try clear df)
        (try clear hk)
        (try clear hi)
        refine hK.out _ _ (kc707.b7 aa.out (kc707.b7 ab.out (kc707.b7e ad.out))) (fun hHeld => ?_)
        clear hK K
        refine norm_ (a' := ?_) ?_ ?_
        rotate_left
        ·show Act.put _ (some 26) _ = _
         simp only [Act.put, List.setIfInBounds_toArray, List.set_cons_zero, List.set_cons_succ, i64_w, i32_w]
         rfl
        refine one_ (i := 5) (N := some 29) #[true, true, true, true, true, true, true, true, false, false, false, false] rfl rfl (one_of HT_.out (by kernel_rfl)) (by decide) (fun K hK => ?_)
        refine goes_ Try.func12 (by kernel_rfl) rfl #[.agg #[.int .i64 ap, .int .i64 aq, .int .i64 ar, .slice bh am.length bi, .slice bj an.length bk, .int .i64 au, .slice bl ao.length bm], .agg #[.int .i64 bw, .int .i64 bx, .int .i64 bz, .slice b8 bt.length b9, .slice da bu.length db, .int .i64 b0, .slice dc bv.length dd]] (by rfl) rfl rfl (by (try simp only [List.map_toArray, List.map_cons, List.map_nil]); first | done | rfl) ?_
        with_reducible refine (attr_Compare.calls dm ap aq ar _ _ am _ _ an au _ _ ao bw bx bz _ _ bt _ _ bu b0 _ _ bv t251 _ ?side1 ?side2 ?side3 ?side4 ?side5 ?side6 ?side7 ?side8 ?side9 ?side10 ?side11 ?side12 dp.out).mono ?_
        (case side1 | side3 | side5 | side7 | side9 | side11 => repeat (first | exact (Kd.C_below bn.out HB.out) | exact (Kd.C_below bp.out HB.out) | exact (Kd.C_below br.out HB.out) | exact (Kd.C_below dg.out HB.out) | exact (Kd.C_below di.out HB.out) | exact (Kd.C_below dk.out HB.out) | (with_reducible refine Kd.C_alloc ?_ _) | (with_reducible refine Kd.C_drewN ?_ _) | (with_reducible refine Kd.C_drew ?_)))
        (case side2 | side4 | side6 | side8 | side10 | side12 => first | exact bo.out | exact bq.out | exact bs.out | exact dh.out | exact dj.out | exact dl.out)
        rintro e w49 ⟨rfl, hb⟩
        refine ⟨_, rfl, ?_⟩
        replace aa := Aside0.mk (kc707.q aa.out rfl hb)
        replace ab := Aside0.mk (kc707.q ab.out rfl hb)
        replace ad := Aside0.mk (kc707.q ad.out rfl hb)
        replace HB := Aside0.mk (kc707.z HB.out rfl rfl rfl rfl hb)
        (try clear hb)
        (try clear df)
        (try clear hk)
        (try clear hi)
        refine hK.out _ _ (kc707.b7 aa.out (kc707.b7 ab.out (kc707.b7e ad.out))) (fun hHeld => ?_)
        clear hK K
        refine norm_ (a' := ?_) ?_ ?_
        rotate_left
        ·show Act.put _ (some 29) _ = _
         simp only [Act.put, List.setIfInBounds_toArray, List.set_cons_zero, List.set_cons_succ, i64_w, i32_w]
         rfl
        refine one_ (i := 8) (N := some 32) #[true, true, true, true, true, true, true, true, true, false, false, false] rfl rfl (one_of HT_.out (by kernel_rfl)) (by decide) (fun K hK => ?_)
        refine goes_ Try.func12 (by kernel_rfl) rfl #[.agg #[.int .i64 ai, .int .i64 aj, .int .i64 ak, .slice av af.length aw, .slice ax ag.length ay, .int .i64 al, .slice az ah.length ba], .agg #[.int .i64 bw, .int .i64 bx, .int .i64 bz, .slice b8 bt.length b9, .slice da bu.length db, .int .i64 b0, .slice dc bv.length dd]] (by rfl) rfl rfl (by (try simp only [List.map_toArray, List.map_cons, List.map_nil]); first | done | rfl) ?_
        with_reducible refine (attr_Compare.calls dm ai aj ak _ _ af _ _ ag al _ _ ah bw bx bz _ _ bt _ _ bu b0 _ _ bv t252 _ ?side1 ?side2 ?side3 ?side4 ?side5 ?side6 ?side7 ?side8 ?side9 ?side10 ?side11 ?side12 dq.out).mono ?_
        (case side1 | side3 | side5 | side7 | side9 | side11 => repeat (first | exact (Kd.C_below bb.out HB.out) | exact (Kd.C_below bd.out HB.out) | exact (Kd.C_below bf.out HB.out) | exact (Kd.C_below dg.out HB.out) | exact (Kd.C_below di.out HB.out) | exact (Kd.C_below dk.out HB.out) | (with_reducible refine Kd.C_alloc ?_ _) | (with_reducible refine Kd.C_drewN ?_ _) | (with_reducible refine Kd.C_drew ?_)))
        (case side2 | side4 | side6 | side8 | side10 | side12 => first | exact bc.out | exact be.out | exact bg.out | exact dh.out | exact dj.out | exact dl.out)
        rintro e w50 ⟨rfl, hb⟩
        refine ⟨_, rfl, ?_⟩
        replace aa := Aside0.mk (kc707.q aa.out rfl hb)
        replace ab := Aside0.mk (kc707.q ab.out rfl hb)
        replace ad := Aside0.mk (kc707.q ad.out rfl hb)
        replace HB := Aside0.mk (kc707.z HB.out rfl rfl rfl rfl hb)
        (try clear hb)
        (try clear df)
        (try clear hk)
        (try clear hi)
        refine hK.out _ _ (kc707.b7 aa.out (kc707.b7 ab.out (kc707.b7e ad.out))) (fun hHeld => ?_)
        clear hK K
        refine norm_ (a' := ?_) ?_ ?_
        rotate_left
        ·show Act.put _ (some 32) _ = _
         simp only [Act.put, List.setIfInBounds_toArray, List.set_cons_zero, List.set_cons_succ, i64_w, i32_w]
         rfl
        refine pure_ (i := 9) (N := some 7) (v := ?_) (a' := ?_) #[true, true, true, true, true, true, true, true, true, true, false, false] rfl rfl (any_of HT_.out (by kernel_rfl)) (fun _ _ _ h => h) (Or.inl ⟨by rfl, ?_⟩) ?_ ?_
        rotate_left
        ·intro w'
         go_simp
         with_reducible rfl
        rotate_left
        ·simp only [Act.put, List.setIfInBounds_toArray, List.set_cons_zero, List.set_cons_succ, i64_w, i32_w]
         rfl
        refine pure_ (i := 10) (N := some 8) (v := ?_) (a' := ?_) #[true, true, true, true, true, true, true, true, true, true, true, false] rfl rfl (any_of HT_.out (by kernel_rfl)) (fun _ _ _ h => h) (Or.inl ⟨by rfl, ?_⟩) ?_ ?_
        rotate_left
        ·intro w'
         go_simp
         with_reducible rfl
        rotate_left
        ·simp only [Act.put, List.setIfInBounds_toArray, List.set_cons_zero, List.set_cons_succ, i64_w, i32_w]
         rfl
        refine pure_ (i := 11) (N := some 9) (v := ?_) (a' := ?_) #[true, true, true, true, true, true, true, true, true, true, true, true] rfl rfl (any_of HT_.out (by kernel_rfl)) (fun _ _ _ h => h) (Or.inl ⟨by rfl, ?_⟩) ?_ ?_
        rotate_left
        ·intro w'
         go_simp
         with_reducible rfl
        rotate_left
        ·simp only [Act.put, List.setIfInBounds_toArray, List.set_cons_zero, List.set_cons_succ, i64_w, i32_w]
         rfl
        refine done_ (done_of HT_.out (by kernel_rfl)) ?_
        have hnb51 := b1.out
        have hnc51 := b2.out
        have hnb52 := b3.out
        have hnc52 := b4.out
        have hcz53_0 : w50.cell? ⟨ac, 0, none⟩ = some (.int .i64 ai) := (blk_cell aa.out 0).trans rfl
        have hcz53_1 : w50.cell? ⟨ac, 1, none⟩ = some (.int .i64 aj) := (blk_cell aa.out 1).trans rfl
        have hcz53_2 : w50.cell? ⟨ac, 2, none⟩ = some (.int .i64 ak) := (blk_cell aa.out 2).trans rfl
        have hcz53_3 : w50.cell? ⟨ac, 3, none⟩ = some (.slice av af.length aw) := (blk_cell aa.out 3).trans rfl
        have hcz53_4 : w50.cell? ⟨ac, 4, none⟩ = some (.slice ax ag.length ay) := (blk_cell aa.out 4).trans rfl
        have hcz53_5 : w50.cell? ⟨ac, 5, none⟩ = some (.int .i64 al) := (blk_cell aa.out 5).trans rfl
        have hcz53_6 : w50.cell? ⟨ac, 6, none⟩ = some (.slice az ah.length ba) := (blk_cell aa.out 6).trans rfl
        have hfz53_0 := blk_frozen aa.out 0
        have hfz53_1 := blk_frozen aa.out 1
        have hfz53_2 := blk_frozen aa.out 2
        have hfz53_3 := blk_frozen aa.out 3
        have hfz53_4 := blk_frozen aa.out 4
        have hfz53_5 := blk_frozen aa.out 5
        have hfz53_6 := blk_frozen aa.out 6
        have hnb54 := b5.out
        have hnc54 := b6.out
        have hcz55_0 : w50.cell? ⟨ae, 0, none⟩ = some (.int .i64 ap) := (blk_cell ab.out 0).trans rfl
        have hcz55_1 : w50.cell? ⟨ae, 1, none⟩ = some (.int .i64 aq) := (blk_cell ab.out 1).trans rfl
        have hcz55_2 : w50.cell? ⟨ae, 2, none⟩ = some (.int .i64 ar) := (blk_cell ab.out 2).trans rfl
        have hcz55_3 : w50.cell? ⟨ae, 3, none⟩ = some (.slice bh am.length bi) := (blk_cell ab.out 3).trans rfl
        have hcz55_4 : w50.cell? ⟨ae, 4, none⟩ = some (.slice bj an.length bk) := (blk_cell ab.out 4).trans rfl
        have hcz55_5 : w50.cell? ⟨ae, 5, none⟩ = some (.int .i64 au) := (blk_cell ab.out 5).trans rfl
        have hcz55_6 : w50.cell? ⟨ae, 6, none⟩ = some (.slice bl ao.length bm) := (blk_cell ab.out 6).trans rfl
        have hfz55_0 := blk_frozen ab.out 0
        have hfz55_1 := blk_frozen ab.out 1
        have hfz55_2 := blk_frozen ab.out 2
        have hfz55_3 := blk_frozen ab.out 3
        have hfz55_4 := blk_frozen ab.out 4
        have hfz55_5 := blk_frozen ab.out 5
        have hfz55_6 := blk_frozen ab.out 6
        try go_wp2_with (first | ((with_reducible refine gate_callee (f := 13) rfl ?_); refine goesL_ (some 36) rfl rfl Try.func13 (by kernel_rfl) rfl #[.agg #[.int .i64 ai, .int .i64 aj, .int .i64 ak, .slice av af.length aw, .slice ax ag.length ay, .int .i64 al, .slice az ah.length ba], .agg #[.int .i64 ap, .int .i64 aq, .int .i64 ar, .slice bh am.length bi, .slice bj an.length bk, .int .i64 au, .slice bl ao.length bm]] rfl (by (try simp only [List.map_toArray, List.map_cons, List.map_nil]); first | done | rfl) ?_; (with_reducible refine (whirligigref09_Compare.calls dm ai aj ak _ _ af _ _ ag al _ _ ah ap aq ar _ _ am _ _ an au _ _ ao t253 _ ?side1 ?side2 ?side3 ?side4 ?side5 ?side6 ?side7 ?side8 ?side9 ?side10 ?side11 ?side12 dr.out).mono ?_); (case side1 | side3 | side5 | side7 | side9 | side11 => repeat (first | exact (Kd.C_below bb.out HB.out) | exact (Kd.C_below bd.out HB.out) | exact (Kd.C_below bf.out HB.out) | exact (Kd.C_below bn.out HB.out) | exact (Kd.C_below bp.out HB.out) | exact (Kd.C_below br.out HB.out) | (with_reducible refine Kd.C_alloc ?_ _) | (with_reducible refine Kd.C_drewN ?_ _) | (with_reducible refine Kd.C_drew ?_))); (case side2 | side4 | side6 | side8 | side10 | side12 => first | exact bc.out | exact be.out | exact bg.out | exact bo.out | exact bq.out | exact bs.out); rintro e w56 ⟨rfl, hb⟩; refine ⟨_, rfl, ?_⟩; replace aa := Aside0.mk (kc707.q aa.out rfl hb); replace ab := Aside0.mk (kc707.q ab.out rfl hb); replace ad := Aside0.mk (kc707.q ad.out rfl hb); replace HB := Aside0.mk (kc707.z HB.out rfl rfl rfl rfl hb); (try clear hb); (try clear df); (try clear hk); (try clear hi); have hcz57_0 : w56.cell? ⟨ae, 0, none⟩ = some (.int .i64 ap) := (blk_cell ab.out 0).trans rfl; have hcz57_1 : w56.cell? ⟨ae, 1, none⟩ = some (.int .i64 aq) := (blk_cell ab.out 1).trans rfl; have hcz57_2 : w56.cell? ⟨ae, 2, none⟩ = some (.int .i64 ar) := (blk_cell ab.out 2).trans rfl; have hcz57_3 : w56.cell? ⟨ae, 3, none⟩ = some (.slice bh am.length bi) := (blk_cell ab.out 3).trans rfl; have hcz57_4 : w56.cell? ⟨ae, 4, none⟩ = some (.slice bj an.length bk) := (blk_cell ab.out 4).trans rfl; have hcz57_5 : w56.cell? ⟨ae, 5, none⟩ = some (.int .i64 au) := (blk_cell ab.out 5).trans rfl; have hcz57_6 : w56.cell? ⟨ae, 6, none⟩ = some (.slice bl ao.length bm) := (blk_cell ab.out 6).trans rfl; have hfz57_0 := blk_frozen ab.out 0; have hfz57_1 := blk_frozen ab.out 1; have hfz57_2 := blk_frozen ab.out 2; have hfz57_3 := blk_frozen ab.out 3; have hfz57_4 := blk_frozen ab.out 4; have hfz57_5 := blk_frozen ab.out 5; have hfz57_6 := blk_frozen ab.out 6; have hcz58_0 : w56.cell? ⟨ac, 0, none⟩ = some (.int .i64 ai) := (blk_cell aa.out 0).trans rfl; have hcz58_1 : w56.cell? ⟨ac, 1, none⟩ = some (.int .i64 aj) := (blk_cell aa.out 1).trans rfl; have hcz58_2 : w56.cell? ⟨ac, 2, none⟩ = some (.int .i64 ak) := (blk_cell aa.out 2).trans rfl; have hcz58_3 : w56.cell? ⟨ac, 3, none⟩ = some (.slice av af.length aw) := (blk_cell aa.out 3).trans rfl; have hcz58_4 : w56.cell? ⟨ac, 4, none⟩ = some (.slice ax ag.length ay) := (blk_cell aa.out 4).trans rfl; have hcz58_5 : w56.cell? ⟨ac, 5, none⟩ = some (.int .i64 al) := (blk_cell aa.out 5).trans rfl; have hcz58_6 : w56.cell? ⟨ac, 6, none⟩ = some (.slice az ah.length ba) := (blk_cell aa.out 6).trans rfl; have hfz58_0 := blk_frozen aa.out 0; have hfz58_1 := blk_frozen aa.out 1; have hfz58_2 := blk_frozen aa.out 2; have hfz58_3 := blk_frozen aa.out 3; have hfz58_4 := blk_frozen aa.out 4; have hfz58_5 := blk_frozen aa.out 5; have hfz58_6 := blk_frozen aa.out 6) | (go_at_call 12; (with_reducible refine (attr_Compare.calls dm ap aq ar _ _ am _ _ an au _ _ ao ai aj ak _ _ af _ _ ag al _ _ ah t254 _ ?side1 ?side2 ?side3 ?side4 ?side5 ?side6 ?side7 ?side8 ?side9 ?side10 ?side11 ?side12 dt.out).mono ?_); (case side1 | side3 | side5 | side7 | side9 | side11 => repeat (first | exact (Kd.C_below bn.out HB.out) | exact (Kd.C_below bp.out HB.out) | exact (Kd.C_below br.out HB.out) | exact (Kd.C_below bb.out HB.out) | exact (Kd.C_below bd.out HB.out) | exact (Kd.C_below bf.out HB.out) | (with_reducible refine Kd.C_alloc ?_ _) | (with_reducible refine Kd.C_drewN ?_ _) | (with_reducible refine Kd.C_drew ?_))); (case side2 | side4 | side6 | side8 | side10 | side12 => first | exact bo.out | exact bq.out | exact bs.out | exact bc.out | exact be.out | exact bg.out); rintro e w59 ⟨rfl, hb⟩; replace aa := Aside0.mk (kc707.q aa.out rfl hb); replace ab := Aside0.mk (kc707.q ab.out rfl hb); replace ad := Aside0.mk (kc707.q ad.out rfl hb); replace HB := Aside0.mk (kc707.z HB.out rfl rfl rfl rfl hb); (try clear hb); (try clear df); (try clear hk); (try clear hi); have hcz60_0 : w59.cell? ⟨ac, 0, none⟩ = some (.int .i64 ai) := (blk_cell aa.out 0).trans rfl; have hcz60_1 : w59.cell? ⟨ac, 1, none⟩ = some (.int .i64 aj) := (blk_cell aa.out 1).trans rfl; have hcz60_2 : w59.cell? ⟨ac, 2, none⟩ = some (.int .i64 ak) := (blk_cell aa.out 2).trans rfl; have hcz60_3 : w59.cell? ⟨ac, 3, none⟩ = some (.slice av af.length aw) := (blk_cell aa.out 3).trans rfl; have hcz60_4 : w59.cell? ⟨ac, 4, none⟩ = some (.slice ax ag.length ay) := (blk_cell aa.out 4).trans rfl; have hcz60_5 : w59.cell? ⟨ac, 5, none⟩ = some (.int .i64 al) := (blk_cell aa.out 5).trans rfl; have hcz60_6 : w59.cell? ⟨ac, 6, none⟩ = some (.slice az ah.length ba) := (blk_cell aa.out 6).trans rfl; have hfz60_0 := blk_frozen aa.out 0; have hfz60_1 := blk_frozen aa.out 1; have hfz60_2 := blk_frozen aa.out 2; have hfz60_3 := blk_frozen aa.out 3; have hfz60_4 := blk_frozen aa.out 4; have hfz60_5 := blk_frozen aa.out 5; have hfz60_6 := blk_frozen aa.out 6) | (go_at_call 12; (with_reducible refine (attr_Compare.calls dm ai aj ak _ _ af _ _ ag al _ _ ah ai aj ak _ _ af _ _ ag al _ _ ah t255 _ ?side1 ?side2 ?side3 ?side4 ?side5 ?side6 ?side7 ?side8 ?side9 ?side10 ?side11 ?side12 du.out).mono ?_); (case side1 | side3 | side5 | side7 | side9 | side11 => repeat (first | exact (Kd.C_below bb.out HB.out) | exact (Kd.C_below bd.out HB.out) | exact (Kd.C_below bf.out HB.out) | (with_reducible refine Kd.C_alloc ?_ _) | (with_reducible refine Kd.C_drewN ?_ _) | (with_reducible refine Kd.C_drew ?_))); (case side2 | side4 | side6 | side8 | side10 | side12 => first | exact bc.out | exact be.out | exact bg.out); rintro e w61 ⟨rfl, hb⟩; replace aa := Aside0.mk (kc707.q aa.out rfl hb); replace ab := Aside0.mk (kc707.q ab.out rfl hb); replace ad := Aside0.mk (kc707.q ad.out rfl hb); replace HB := Aside0.mk (kc707.z HB.out rfl rfl rfl rfl hb); (try clear hb); (try clear df); (try clear hk); (try clear hi)) | (go_at_call 10; (with_reducible refine (whirligiglaw09_lives.calls dm  t256 _ A46.out).mono ?_); rintro e w62 ⟨rfl, hb⟩; replace aa := Aside0.mk (kc707.q aa.out rfl hb); replace ab := Aside0.mk (kc707.q ab.out rfl hb); replace ad := Aside0.mk (kc707.q ad.out rfl hb); replace HB := Aside0.mk (kc707.z HB.out rfl rfl rfl rfl hb); (try clear hb); (try clear df); (try clear hk); (try clear hi)))
        go_ret
        exact ⟨by first | rfl | (simp [errW_none, errW_some] <;> rfl) | (simp [*, errW_none, errW_some] <;> rfl), by repeat (first | (with_reducible first | exact HB.out | apply below_alloc | apply pw_below_drewN | apply below_drew1) | exact HB.out)⟩
       ·rw [if_neg c45] at H
        have c45b0 : decide (0 < t250) = false := decide_eq_false c45
        clear c45
        by_cases c63 : t251 > 0
        ·rw [if_pos c63] at H
         have c63b0 : decide (0 < t251) = true := decide_eq_true c63
         clear c63
         replace H := Option.bind_eq_some_iff.mp H
         obtain ⟨t257, A640, H⟩ := H
         replace H : (some t257) = some r := H
         have A64 := Aside0.mk A640
         clear A640
         obtain rfl := Option.some.inj H
         try go_wp2
         replace aa := Aside0.mk (blk_drew aa.out)
         replace ab := Aside0.mk (blk_drew ab.out)
         replace ad := Aside0.mk (blk_drew ad.out)
         replace HB := Aside0.mk (below_drew1 HB.out)
         refine start_ (n := 12) (S := kc707.S0 ac ae de (.int .i64 ai) (.int .i64 aj) (.int .i64 ak) (.slice av af.length aw) (.slice ax ag.length ay) (.int .i64 al) (.slice az ah.length ba) (.int .i64 ap) (.int .i64 aq) (.int .i64 ar) (.slice bh am.length bi) (.slice bj an.length bk) (.int .i64 au) (.slice bl ao.length bm) (.int .i64 bw) (.int .i64 bx) (.int .i64 bz) (.slice b8 bt.length b9) (.slice da bu.length db) (.int .i64 b0) (.slice dc bv.length dd)) (ds := []) #[false, false, false, false, false, false, false, false, false, false, false, false] (by kernel_rfl) rfl rfl (kc707.b7 aa.out (kc707.b7 ab.out (kc707.b7e ad.out))) (fun hHeld => ?_); refine with_tabW whirligiglaw09_AttrOrder.tab3 whirligiglaw09_AttrOrder.bits3 (fun HT_ HW_ => ?_)
         generalize wc.drew = w65 at aa ab ad HB hHeld ⊢
         refine take_ (i := 0) (N := some 24) (v := ?_) (a' := ?_) #[true, false, false, false, false, false, false, false, false, false, false, false] rfl rfl (take_ofW HT_.out HW_.out (by kernel_rfl)) (fun _ _ _ h => h) (Or.inl ⟨by rfl, ?_⟩) hHeld ?_ ?_
         rotate_left
         ·rintro w' ⟨s0, s1, s2, s3, s4, s5, s6, s7, s8, s9, s10, s11, s12, s13, s14, s15, s16, s17, s18, s19, s20⟩
          go_simp
          with_reducible rfl
         rotate_left
         ·simp only [Act.put, List.setIfInBounds_toArray, List.set_cons_zero, List.set_cons_succ, i64_w, i32_w]
          rfl
         refine take_ (i := 1) (N := some 25) (v := ?_) (a' := ?_) #[true, true, false, false, false, false, false, false, false, false, false, false] rfl rfl (take_ofW HT_.out HW_.out (by kernel_rfl)) (fun _ _ _ h => h) (Or.inl ⟨by rfl, ?_⟩) hHeld ?_ ?_
         rotate_left
         ·rintro w' ⟨s0, s1, s2, s3, s4, s5, s6, s7, s8, s9, s10, s11, s12, s13, s14, s15, s16, s17, s18, s19, s20⟩
          go_simp
          with_reducible rfl
         rotate_left
         ·simp only [Act.put, List.setIfInBounds_toArray, List.set_cons_zero, List.set_cons_succ, i64_w, i32_w]
          rfl
         refine take_ (i := 3) (N := some 27) (v := ?_) (a' := ?_) #[true, true, false, true, false, false, false, false, false, false, false, false] rfl rfl (take_ofW HT_.out HW_.out (by kernel_rfl)) (fun _ _ _ h => h) (Or.inl ⟨by rfl, ?_⟩) hHeld ?_ ?_
         rotate_left
         ·rintro w' ⟨s0, s1, s2, s3, s4, s5, s6, s7, s8, s9, s10, s11, s12, s13, s14, s15, s16, s17, s18, s19, s20⟩
          go_simp
          with_reducible rfl
         rotate_left
         ·simp only [Act.put, List.setIfInBounds_toArray, List.set_cons_zero, List.set_cons_succ, i64_w, i32_w]
          rfl
         refine take_ (i := 4) (N := some 28) (v := ?_) (a' := ?_) #[true, true, false, true, true, false, false, false, false, false, false, false] rfl rfl (take_ofW HT_.out HW_.out (by kernel_rfl)) (fun _ _ _ h => h) (Or.inl ⟨by rfl, ?_⟩) hHeld ?_ ?_
         rotate_left
         ·rintro w' ⟨s0, s1, s2, s3, s4, s5, s6, s7, s8, s9, s10, s11, s12, s13, s14, s15, s16, s17, s18, s19, s20⟩
          go_simp
          with_reducible rfl
         rotate_left
         ·simp only [Act.put, List.setIfInBounds_toArray, List.set_cons_zero, List.set_cons_succ, i64_w, i32_w]
          rfl
         refine take_ (i := 6) (N := some 30) (v := ?_) (a' := ?_) #[true, true, false, true, true, false, true, false, false, false, false, false] rfl rfl (take_ofW HT_.out HW_.out (by kernel_rfl)) (fun _ _ _ h => h) (Or.inl ⟨by rfl, ?_⟩) hHeld ?_ ?_
         rotate_left
         ·rintro w' ⟨s0, s1, s2, s3, s4, s5, s6, s7, s8, s9, s10, s11, s12, s13, s14, s15, s16, s17, s18, s19, s20⟩
          go_simp
          with_reducible rfl
         rotate_left
         ·simp only [Act.put, List.setIfInBounds_toArray, List.set_cons_zero, List.set_cons_succ, i64_w, i32_w]
          rfl
         refine take_ (i := 7) (N := some 31) (v := ?_) (a' := ?_) #[true, true, false, true, true, false, true, true, false, false, false, false] rfl rfl (take_ofW HT_.out HW_.out (by kernel_rfl)) (fun _ _ _ h => h) (Or.inl ⟨by rfl, ?_⟩) hHeld ?_ ?_
         rotate_left
         ·rintro w' ⟨s0, s1, s2, s3, s4, s5, s6, s7, s8, s9, s10, s11, s12, s13, s14, s15, s16, s17, s18, s19, s20⟩
          go_simp
          with_reducible rfl
         rotate_left
         ·simp only [Act.put, List.setIfInBounds_toArray, List.set_cons_zero, List.set_cons_succ, i64_w, i32_w]
          rfl
         refine one_ (i := 2) (N := some 26) #[true, true, true, true, true, false, true, true, false, false, false, false] rfl rfl (one_of HT_.out (by kernel_rfl)) (by decide) (fun K hK => ?_)
         refine goes_ Try.func12 (by kernel_rfl) rfl #[.agg #[.int .i64 ai, .int .i64 aj, .int .i64 ak, .slice av af.length aw, .slice ax ag.length ay, .int .i64 al, .slice az ah.length ba], .agg #[.int .i64 ap, .int .i64 aq, .int .i64 ar, .slice bh am.length bi, .slice bj an.length bk, .int .i64 au, .slice bl ao.length bm]] (by rfl) rfl rfl (by (try simp only [List.map_toArray, List.map_cons, List.map_nil]); first | done | rfl) ?_
         with_reducible refine (attr_Compare.calls dm ai aj ak _ _ af _ _ ag al _ _ ah ap aq ar _ _ am _ _ an au _ _ ao t250 _ ?side1 ?side2 ?side3 ?side4 ?side5 ?side6 ?side7 ?side8 ?side9 ?side10 ?side11 ?side12 dn.out).mono ?_
         (case side1 | side3 | side5 | side7 | side9 | side11 => repeat (first | exact (Kd.C_below bb.out HB.out) | exact (Kd.C_below bd.out HB.out) | exact (Kd.C_below bf.out HB.out) | exact (Kd.C_below bn.out HB.out) | exact (Kd.C_below bp.out HB.out) | exact (Kd.C_below br.out HB.out) | (with_reducible refine Kd.C_alloc ?_ _) | (with_reducible refine Kd.C_drewN ?_ _) | (with_reducible refine Kd.C_drew ?_)))
         (case side2 | side4 | side6 | side8 | side10 | side12 => first | exact bc.out | exact be.out | exact bg.out | exact bo.out | exact bq.out | exact bs.out)
         rintro e w66 ⟨rfl, hb⟩
         refine ⟨_, rfl, ?_⟩
         replace aa := Aside0.mk (kc707.q aa.out rfl hb)
         replace ab := Aside0.mk (kc707.q ab.out rfl hb)
         replace ad := Aside0.mk (kc707.q ad.out rfl hb)
         replace HB := Aside0.mk (kc707.z HB.out rfl rfl rfl rfl hb)
         (try clear hb)
         (try clear df)
         (try clear hk)
         (try clear hi)
         refine hK.out _ _ (kc707.b7 aa.out (kc707.b7 ab.out (kc707.b7e ad.out))) (fun hHeld => ?_)
         clear hK K
         refine norm_ (a' := ?_) ?_ ?_
         rotate_left
         ·show Act.put _ (some 26) _ = _
          simp only [Act.put, List.setIfInBounds_toArray, List.set_cons_zero, List.set_cons_succ, i64_w, i32_w]
          rfl
         refine one_ (i := 5) (N := some 29) #[true, true, true, true, true, true, true, true, false, false, false, false] rfl rfl (one_of HT_.out (by kernel_rfl)) (by decide) (fun K hK => ?_)
         refine goes_ Try.func12 (by kernel_rfl) rfl #[.agg #[.int .i64 ap, .int .i64 aq, .int .i64 ar, .slice bh am.length bi, .slice bj an.length bk, .int .i64 au, .slice bl ao.length bm], .agg #[.int .i64 bw, .int .i64 bx, .int .i64 bz, .slice b8 bt.length b9, .slice da bu.length db, .int .i64 b0, .slice dc bv.length dd]] (by rfl) rfl rfl (by (try simp only [List.map_toArray, List.map_cons, List.map_nil]); first | done | rfl) ?_
         with_reducible refine (attr_Compare.calls dm ap aq ar _ _ am _ _ an au _ _ ao bw bx bz _ _ bt _ _ bu b0 _ _ bv t251 _ ?side1 ?side2 ?side3 ?side4 ?side5 ?side6 ?side7 ?side8 ?side9 ?side10 ?side11 ?side12 dp.out).mono ?_
         (case side1 | side3 | side5 | side7 | side9 | side11 => repeat (first | exact (Kd.C_below bn.out HB.out) | exact (Kd.C_below bp.out HB.out) | exact (Kd.C_below br.out HB.out) | exact (Kd.C_below dg.out HB.out) | exact (Kd.C_below di.out HB.out) | exact (Kd.C_below dk.out HB.out) | (with_reducible refine Kd.C_alloc ?_ _) | (with_reducible refine Kd.C_drewN ?_ _) | (with_reducible refine Kd.C_drew ?_)))
         (case side2 | side4 | side6 | side8 | side10 | side12 => first | exact bo.out | exact bq.out | exact bs.out | exact dh.out | exact dj.out | exact dl.out)
         rintro e w67 ⟨rfl, hb⟩
         refine ⟨_, rfl, ?_⟩
         replace aa := Aside0.mk (kc707.q aa.out rfl hb)
         replace ab := Aside0.mk (kc707.q ab.out rfl hb)
         replace ad := Aside0.mk (kc707.q ad.out rfl hb)
         replace HB := Aside0.mk (kc707.z HB.out rfl rfl rfl rfl hb)
         (try clear hb)
         (try clear df)
         (try clear hk)
         (try clear hi)
         refine hK.out _ _ (kc707.b7 aa.out (kc707.b7 ab.out (kc707.b7e ad.out))) (fun hHeld => ?_)
         clear hK K
         refine norm_ (a' := ?_) ?_ ?_
         rotate_left
         ·show Act.put _ (some 29) _ = _
          simp only [Act.put, List.setIfInBounds_toArray, List.set_cons_zero, List.set_cons_succ, i64_w, i32_w]
          rfl
         refine one_ (i := 8) (N := some 32) #[true, true, true, true, true, true, true, true, true, false, false, false] rfl rfl (one_of HT_.out (by kernel_rfl)) (by decide) (fun K hK => ?_)
         refine goes_ Try.func12 (by kernel_rfl) rfl #[.agg #[.int .i64 ai, .int .i64 aj, .int .i64 ak, .slice av af.length aw, .slice ax ag.length ay, .int .i64 al, .slice az ah.length ba], .agg #[.int .i64 bw, .int .i64 bx, .int .i64 bz, .slice b8 bt.length b9, .slice da bu.length db, .int .i64 b0, .slice dc bv.length dd]] (by rfl) rfl rfl (by (try simp only [List.map_toArray, List.map_cons, List.map_nil]); first | done | rfl) ?_
         with_reducible refine (attr_Compare.calls dm ai aj ak _ _ af _ _ ag al _ _ ah bw bx bz _ _ bt _ _ bu b0 _ _ bv t252 _ ?side1 ?side2 ?side3 ?side4 ?side5 ?side6 ?side7 ?side8 ?side9 ?side10 ?side11 ?side12 dq.out).mono ?_
         (case side1 | side3 | side5 | side7 | side9 | side11 => repeat (first | exact (Kd.C_below bb.out HB.out) | exact (Kd.C_below bd.out HB.out) | exact (Kd.C_below bf.out HB.out) | exact (Kd.C_below dg.out HB.out) | exact (Kd.C_below di.out HB.out) | exact (Kd.C_below dk.out HB.out) | (with_reducible refine Kd.C_alloc ?_ _) | (with_reducible refine Kd.C_drewN ?_ _) | (with_reducible refine Kd.C_drew ?_)))
         (case side2 | side4 | side6 | side8 | side10 | side12 => first | exact bc.out | exact be.out | exact bg.out | exact dh.out | exact dj.out | exact dl.out)
         rintro e w68 ⟨rfl, hb⟩
         refine ⟨_, rfl, ?_⟩
         replace aa := Aside0.mk (kc707.q aa.out rfl hb)
         replace ab := Aside0.mk (kc707.q ab.out rfl hb)
         replace ad := Aside0.mk (kc707.q ad.out rfl hb)
         replace HB := Aside0.mk (kc707.z HB.out rfl rfl rfl rfl hb)
         (try clear hb)
         (try clear df)
         (try clear hk)
         (try clear hi)
         refine hK.out _ _ (kc707.b7 aa.out (kc707.b7 ab.out (kc707.b7e ad.out))) (fun hHeld => ?_)
         clear hK K
         refine norm_ (a' := ?_) ?_ ?_
         rotate_left
         ·show Act.put _ (some 32) _ = _
          simp only [Act.put, List.setIfInBounds_toArray, List.set_cons_zero, List.set_cons_succ, i64_w, i32_w]
          rfl
         refine pure_ (i := 9) (N := some 7) (v := ?_) (a' := ?_) #[true, true, true, true, true, true, true, true, true, true, false, false] rfl rfl (any_of HT_.out (by kernel_rfl)) (fun _ _ _ h => h) (Or.inl ⟨by rfl, ?_⟩) ?_ ?_
         rotate_left
         ·intro w'
          go_simp
          with_reducible rfl
         rotate_left
         ·simp only [Act.put, List.setIfInBounds_toArray, List.set_cons_zero, List.set_cons_succ, i64_w, i32_w]
          rfl
         refine pure_ (i := 10) (N := some 8) (v := ?_) (a' := ?_) #[true, true, true, true, true, true, true, true, true, true, true, false] rfl rfl (any_of HT_.out (by kernel_rfl)) (fun _ _ _ h => h) (Or.inl ⟨by rfl, ?_⟩) ?_ ?_
         rotate_left
         ·intro w'
          go_simp
          with_reducible rfl
         rotate_left
         ·simp only [Act.put, List.setIfInBounds_toArray, List.set_cons_zero, List.set_cons_succ, i64_w, i32_w]
          rfl
         refine pure_ (i := 11) (N := some 9) (v := ?_) (a' := ?_) #[true, true, true, true, true, true, true, true, true, true, true, true] rfl rfl (any_of HT_.out (by kernel_rfl)) (fun _ _ _ h => h) (Or.inl ⟨by rfl, ?_⟩) ?_ ?_
         rotate_left
         ·intro w'
          go_simp
          with_reducible rfl
         rotate_left
         ·simp only [Act.put, List.setIfInBounds_toArray, List.set_cons_zero, List.set_cons_succ, i64_w, i32_w]
          rfl
         refine done_ (done_of HT_.out (by kernel_rfl)) ?_
         have hnb69 := b1.out
         have hnc69 := b2.out
         have hnb70 := b3.out
         have hnc70 := b4.out
         have hcz71_0 : w68.cell? ⟨ac, 0, none⟩ = some (.int .i64 ai) := (blk_cell aa.out 0).trans rfl
         have hcz71_1 : w68.cell? ⟨ac, 1, none⟩ = some (.int .i64 aj) := (blk_cell aa.out 1).trans rfl
         have hcz71_2 : w68.cell? ⟨ac, 2, none⟩ = some (.int .i64 ak) := (blk_cell aa.out 2).trans rfl
         have hcz71_3 : w68.cell? ⟨ac, 3, none⟩ = some (.slice av af.length aw) := (blk_cell aa.out 3).trans rfl
         have hcz71_4 : w68.cell? ⟨ac, 4, none⟩ = some (.slice ax ag.length ay) := (blk_cell aa.out 4).trans rfl
         have hcz71_5 : w68.cell? ⟨ac, 5, none⟩ = some (.int .i64 al) := (blk_cell aa.out 5).trans rfl
         have hcz71_6 : w68.cell? ⟨ac, 6, none⟩ = some (.slice az ah.length ba) := (blk_cell aa.out 6).trans rfl
         have hfz71_0 := blk_frozen aa.out 0
         have hfz71_1 := blk_frozen aa.out 1
         have hfz71_2 := blk_frozen aa.out 2
         have hfz71_3 := blk_frozen aa.out 3
         have hfz71_4 := blk_frozen aa.out 4
         have hfz71_5 := blk_frozen aa.out 5
         have hfz71_6 := blk_frozen aa.out 6
         have hnb72 := b5.out
         have hnc72 := b6.out
         have hcz73_0 : w68.cell? ⟨ae, 0, none⟩ = some (.int .i64 ap) := (blk_cell ab.out 0).trans rfl
         have hcz73_1 : w68.cell? ⟨ae, 1, none⟩ = some (.int .i64 aq) := (blk_cell ab.out 1).trans rfl
         have hcz73_2 : w68.cell? ⟨ae, 2, none⟩ = some (.int .i64 ar) := (blk_cell ab.out 2).trans rfl
         have hcz73_3 : w68.cell? ⟨ae, 3, none⟩ = some (.slice bh am.length bi) := (blk_cell ab.out 3).trans rfl
         have hcz73_4 : w68.cell? ⟨ae, 4, none⟩ = some (.slice bj an.length bk) := (blk_cell ab.out 4).trans rfl
         have hcz73_5 : w68.cell? ⟨ae, 5, none⟩ = some (.int .i64 au) := (blk_cell ab.out 5).trans rfl
         have hcz73_6 : w68.cell? ⟨ae, 6, none⟩ = some (.slice bl ao.length bm) := (blk_cell ab.out 6).trans rfl
         have hfz73_0 := blk_frozen ab.out 0
         have hfz73_1 := blk_frozen ab.out 1
         have hfz73_2 := blk_frozen ab.out 2
         have hfz73_3 := blk_frozen ab.out 3
         have hfz73_4 := blk_frozen ab.out 4
         have hfz73_5 := blk_frozen ab.out 5
         have hfz73_6 := blk_frozen ab.out 6
         try go_wp2_with (first | ((with_reducible refine gate_callee (f := 13) rfl ?_); refine goesL_ (some 36) rfl rfl Try.func13 (by kernel_rfl) rfl #[.agg #[.int .i64 ai, .int .i64 aj, .int .i64 ak, .slice av af.length aw, .slice ax ag.length ay, .int .i64 al, .slice az ah.length ba], .agg #[.int .i64 ap, .int .i64 aq, .int .i64 ar, .slice bh am.length bi, .slice bj an.length bk, .int .i64 au, .slice bl ao.length bm]] rfl (by (try simp only [List.map_toArray, List.map_cons, List.map_nil]); first | done | rfl) ?_; (with_reducible refine (whirligigref09_Compare.calls dm ai aj ak _ _ af _ _ ag al _ _ ah ap aq ar _ _ am _ _ an au _ _ ao t253 _ ?side1 ?side2 ?side3 ?side4 ?side5 ?side6 ?side7 ?side8 ?side9 ?side10 ?side11 ?side12 dr.out).mono ?_); (case side1 | side3 | side5 | side7 | side9 | side11 => repeat (first | exact (Kd.C_below bb.out HB.out) | exact (Kd.C_below bd.out HB.out) | exact (Kd.C_below bf.out HB.out) | exact (Kd.C_below bn.out HB.out) | exact (Kd.C_below bp.out HB.out) | exact (Kd.C_below br.out HB.out) | (with_reducible refine Kd.C_alloc ?_ _) | (with_reducible refine Kd.C_drewN ?_ _) | (with_reducible refine Kd.C_drew ?_))); (case side2 | side4 | side6 | side8 | side10 | side12 => first | exact bc.out | exact be.out | exact bg.out | exact bo.out | exact bq.out | exact bs.out); rintro e w74 ⟨rfl, hb⟩; refine ⟨_, rfl, ?_⟩; replace aa := Aside0.mk (kc707.q aa.out rfl hb); replace ab := Aside0.mk (kc707.q ab.out rfl hb); replace ad := Aside0.mk (kc707.q ad.out rfl hb); replace HB := Aside0.mk (kc707.z HB.out rfl rfl rfl rfl hb); (try clear hb); (try clear df); (try clear hk); (try clear hi); have hcz75_0 : w74.cell? ⟨ae, 0, none⟩ = some (.int .i64 ap) := (blk_cell ab.out 0).trans rfl; have hcz75_1 : w74.cell? ⟨ae, 1, none⟩ = some (.int .i64 aq) := (blk_cell ab.out 1).trans rfl; have hcz75_2 : w74.cell? ⟨ae, 2, none⟩ = some (.int .i64 ar) := (blk_cell ab.out 2).trans rfl; have hcz75_3 : w74.cell? ⟨ae, 3, none⟩ = some (.slice bh am.length bi) := (blk_cell ab.out 3).trans rfl; have hcz75_4 : w74.cell? ⟨ae, 4, none⟩ = some (.slice bj an.length bk) := (blk_cell ab.out 4).trans rfl; have hcz75_5 : w74.cell? ⟨ae, 5, none⟩ = some (.int .i64 au) := (blk_cell ab.out 5).trans rfl; have hcz75_6 : w74.cell? ⟨ae, 6, none⟩ = some (.slice bl ao.length bm) := (blk_cell ab.out 6).trans rfl; have hfz75_0 := blk_frozen ab.out 0; have hfz75_1 := blk_frozen ab.out 1; have hfz75_2 := blk_frozen ab.out 2; have hfz75_3 := blk_frozen ab.out 3; have hfz75_4 := blk_frozen ab.out 4; have hfz75_5 := blk_frozen ab.out 5; have hfz75_6 := blk_frozen ab.out 6; have hcz76_0 : w74.cell? ⟨ac, 0, none⟩ = some (.int .i64 ai) := (blk_cell aa.out 0).trans rfl; have hcz76_1 : w74.cell? ⟨ac, 1, none⟩ = some (.int .i64 aj) := (blk_cell aa.out 1).trans rfl; have hcz76_2 : w74.cell? ⟨ac, 2, none⟩ = some (.int .i64 ak) := (blk_cell aa.out 2).trans rfl; have hcz76_3 : w74.cell? ⟨ac, 3, none⟩ = some (.slice av af.length aw) := (blk_cell aa.out 3).trans rfl; have hcz76_4 : w74.cell? ⟨ac, 4, none⟩ = some (.slice ax ag.length ay) := (blk_cell aa.out 4).trans rfl; have hcz76_5 : w74.cell? ⟨ac, 5, none⟩ = some (.int .i64 al) := (blk_cell aa.out 5).trans rfl; have hcz76_6 : w74.cell? ⟨ac, 6, none⟩ = some (.slice az ah.length ba) := (blk_cell aa.out 6).trans rfl; have hfz76_0 := blk_frozen aa.out 0; have hfz76_1 := blk_frozen aa.out 1; have hfz76_2 := blk_frozen aa.out 2; have hfz76_3 := blk_frozen aa.out 3; have hfz76_4 := blk_frozen aa.out 4; have hfz76_5 := blk_frozen aa.out 5; have hfz76_6 := blk_frozen aa.out 6) | (go_at_call 12; (with_reducible refine (attr_Compare.calls dm ap aq ar _ _ am _ _ an au _ _ ao ai aj ak _ _ af _ _ ag al _ _ ah t254 _ ?side1 ?side2 ?side3 ?side4 ?side5 ?side6 ?side7 ?side8 ?side9 ?side10 ?side11 ?side12 dt.out).mono ?_); (case side1 | side3 | side5 | side7 | side9 | side11 => repeat (first | exact (Kd.C_below bn.out HB.out) | exact (Kd.C_below bp.out HB.out) | exact (Kd.C_below br.out HB.out) | exact (Kd.C_below bb.out HB.out) | exact (Kd.C_below bd.out HB.out) | exact (Kd.C_below bf.out HB.out) | (with_reducible refine Kd.C_alloc ?_ _) | (with_reducible refine Kd.C_drewN ?_ _) | (with_reducible refine Kd.C_drew ?_))); (case side2 | side4 | side6 | side8 | side10 | side12 => first | exact bo.out | exact bq.out | exact bs.out | exact bc.out | exact be.out | exact bg.out); rintro e w77 ⟨rfl, hb⟩; replace aa := Aside0.mk (kc707.q aa.out rfl hb); replace ab := Aside0.mk (kc707.q ab.out rfl hb); replace ad := Aside0.mk (kc707.q ad.out rfl hb); replace HB := Aside0.mk (kc707.z HB.out rfl rfl rfl rfl hb); (try clear hb); (try clear df); (try clear hk); (try clear hi); have hcz78_0 : w77.cell? ⟨ac, 0, none⟩ = some (.int .i64 ai) := (blk_cell aa.out 0).trans rfl; have hcz78_1 : w77.cell? ⟨ac, 1, none⟩ = some (.int .i64 aj) := (blk_cell aa.out 1).trans rfl; have hcz78_2 : w77.cell? ⟨ac, 2, none⟩ = some (.int .i64 ak) := (blk_cell aa.out 2).trans rfl; have hcz78_3 : w77.cell? ⟨ac, 3, none⟩ = some (.slice av af.length aw) := (blk_cell aa.out 3).trans rfl; have hcz78_4 : w77.cell? ⟨ac, 4, none⟩ = some (.slice ax ag.length ay) := (blk_cell aa.out 4).trans rfl; have hcz78_5 : w77.cell? ⟨ac, 5, none⟩ = some (.int .i64 al) := (blk_cell aa.out 5).trans rfl; have hcz78_6 : w77.cell? ⟨ac, 6, none⟩ = some (.slice az ah.length ba) := (blk_cell aa.out 6).trans rfl; have hfz78_0 := blk_frozen aa.out 0; have hfz78_1 := blk_frozen aa.out 1; have hfz78_2 := blk_frozen aa.out 2; have hfz78_3 := blk_frozen aa.out 3; have hfz78_4 := blk_frozen aa.out 4; have hfz78_5 := blk_frozen aa.out 5; have hfz78_6 := blk_frozen aa.out 6) | (go_at_call 12; (with_reducible refine (attr_Compare.calls dm ai aj ak _ _ af _ _ ag al _ _ ah ai aj ak _ _ af _ _ ag al _ _ ah t255 _ ?side1 ?side2 ?side3 ?side4 ?side5 ?side6 ?side7 ?side8 ?side9 ?side10 ?side11 ?side12 du.out).mono ?_); (case side1 | side3 | side5 | side7 | side9 | side11 => repeat (first | exact (Kd.C_below bb.out HB.out) | exact (Kd.C_below bd.out HB.out) | exact (Kd.C_below bf.out HB.out) | (with_reducible refine Kd.C_alloc ?_ _) | (with_reducible refine Kd.C_drewN ?_ _) | (with_reducible refine Kd.C_drew ?_))); (case side2 | side4 | side6 | side8 | side10 | side12 => first | exact bc.out | exact be.out | exact bg.out); rintro e w79 ⟨rfl, hb⟩; replace aa := Aside0.mk (kc707.q aa.out rfl hb); replace ab := Aside0.mk (kc707.q ab.out rfl hb); replace ad := Aside0.mk (kc707.q ad.out rfl hb); replace HB := Aside0.mk (kc707.z HB.out rfl rfl rfl rfl hb); (try clear hb); (try clear df); (try clear hk); (try clear hi)) | (go_at_call 10; (with_reducible refine (whirligiglaw09_lives.calls dm  t257 _ A64.out).mono ?_); rintro e w80 ⟨rfl, hb⟩; replace aa := Aside0.mk (kc707.q aa.out rfl hb); replace ab := Aside0.mk (kc707.q ab.out rfl hb); replace ad := Aside0.mk (kc707.q ad.out rfl hb); replace HB := Aside0.mk (kc707.z HB.out rfl rfl rfl rfl hb); (try clear hb); (try clear df); (try clear hk); (try clear hi)))
         go_ret
         exact ⟨by first | rfl | (simp [errW_none, errW_some] <;> rfl) | (simp [*, errW_none, errW_some] <;> rfl), by repeat (first | (with_reducible first | exact HB.out | apply below_alloc | apply pw_below_drewN | apply below_drew1) | exact HB.out)⟩
        ·rw [if_neg c63] at H
         have c63b0 : decide (0 < t251) = false := decide_eq_false c63
         clear c63
         by_cases c81 : t252 ≤ 0
         ·rw [if_pos c81] at H
          have c81b0 : decide (t252 ≤ 0) = true := decide_eq_true c81
          clear c81
          by_cases c82 : t250 = 0
          ·rw [if_pos c82] at H
           have c82b0 : (t250 == 0) = true := beq_iff_eq.mpr c82
           have c82b1 : (t250 != 0) = false := bne_eq_false_iff_eq.mpr c82
           clear c82
           by_cases c83 : t251 = 0
           ·rw [if_pos c83] at H
            have c83b0 : (t251 == 0) = true := beq_iff_eq.mpr c83
            have c83b1 : (t251 != 0) = false := bne_eq_false_iff_eq.mpr c83
            clear c83
            replace H := Option.bind_eq_some_iff.mp H
            obtain ⟨t258, A840, H⟩ := H
            replace H : (some t258) = some r := H
            have A84 := Aside0.mk A840
            clear A840
            obtain rfl := Option.some.inj H
            try go_wp2
            replace aa := Aside0.mk (blk_drew aa.out)
            replace ab := Aside0.mk (blk_drew ab.out)
            replace ad := Aside0.mk (blk_drew ad.out)
            replace HB := Aside0.mk (below_drew1 HB.out)
            refine start_ (n := 12) (S := kc707.S0 ac ae de (.int .i64 ai) (.int .i64 aj) (.int .i64 ak) (.slice av af.length aw) (.slice ax ag.length ay) (.int .i64 al) (.slice az ah.length ba) (.int .i64 ap) (.int .i64 aq) (.int .i64 ar) (.slice bh am.length bi) (.slice bj an.length bk) (.int .i64 au) (.slice bl ao.length bm) (.int .i64 bw) (.int .i64 bx) (.int .i64 bz) (.slice b8 bt.length b9) (.slice da bu.length db) (.int .i64 b0) (.slice dc bv.length dd)) (ds := []) #[false, false, false, false, false, false, false, false, false, false, false, false] (by kernel_rfl) rfl rfl (kc707.b7 aa.out (kc707.b7 ab.out (kc707.b7e ad.out))) (fun hHeld => ?_); refine with_tabW whirligiglaw09_AttrOrder.tab3 whirligiglaw09_AttrOrder.bits3 (fun HT_ HW_ => ?_)
            generalize wc.drew = w85 at aa ab ad HB hHeld ⊢
            refine take_ (i := 0) (N := some 24) (v := ?_) (a' := ?_) #[true, false, false, false, false, false, false, false, false, false, false, false] rfl rfl (take_ofW HT_.out HW_.out (by kernel_rfl)) (fun _ _ _ h => h) (Or.inl ⟨by rfl, ?_⟩) hHeld ?_ ?_
            rotate_left
            ·rintro w' ⟨s0, s1, s2, s3, s4, s5, s6, s7, s8, s9, s10, s11, s12, s13, s14, s15, s16, s17, s18, s19, s20⟩
             go_simp
             with_reducible rfl
            rotate_left
            ·simp only [Act.put, List.setIfInBounds_toArray, List.set_cons_zero, List.set_cons_succ, i64_w, i32_w]
             rfl
            refine take_ (i := 1) (N := some 25) (v := ?_) (a' := ?_) #[true, true, false, false, false, false, false, false, false, false, false, false] rfl rfl (take_ofW HT_.out HW_.out (by kernel_rfl)) (fun _ _ _ h => h) (Or.inl ⟨by rfl, ?_⟩) hHeld ?_ ?_
            rotate_left
            ·rintro w' ⟨s0, s1, s2, s3, s4, s5, s6, s7, s8, s9, s10, s11, s12, s13, s14, s15, s16, s17, s18, s19, s20⟩
             go_simp
             with_reducible rfl
            rotate_left
            ·simp only [Act.put, List.setIfInBounds_toArray, List.set_cons_zero, List.set_cons_succ, i64_w, i32_w]
             rfl
            refine take_ (i := 3) (N := some 27) (v := ?_) (a' := ?_) #[true, true, false, true, false, false, false, false, false, false, false, false] rfl rfl (take_ofW HT_.out HW_.out (by kernel_rfl)) (fun _ _ _ h => h) (Or.inl ⟨by rfl, ?_⟩) hHeld ?_ ?_
            rotate_left
            ·rintro w' ⟨s0, s1, s2, s3, s4, s5, s6, s7, s8, s9, s10, s11, s12, s13, s14, s15, s16, s17, s18, s19, s20⟩
             go_simp
             with_reducible rfl
            rotate_left
            ·simp only [Act.put, List.setIfInBounds_toArray, List.set_cons_zero, List.set_cons_succ, i64_w, i32_w]
             rfl
            refine take_ (i := 4) (N := some 28) (v := ?_) (a' := ?_) #[true, true, false, true, true, false, false, false, false, false, false, false] rfl rfl (take_ofW HT_.out HW_.out (by kernel_rfl)) (fun _ _ _ h => h) (Or.inl ⟨by rfl, ?_⟩) hHeld ?_ ?_
            rotate_left
            ·rintro w' ⟨s0, s1, s2, s3, s4, s5, s6, s7, s8, s9, s10, s11, s12, s13, s14, s15, s16, s17, s18, s19, s20⟩
             go_simp
             with_reducible rfl
            rotate_left
            ·simp only [Act.put, List.setIfInBounds_toArray, List.set_cons_zero, List.set_cons_succ, i64_w, i32_w]
             rfl
            refine take_ (i := 6) (N := some 30) (v := ?_) (a' := ?_) #[true, true, false, true, true, false, true, false, false, false, false, false] rfl rfl (take_ofW HT_.out HW_.out (by kernel_rfl)) (fun _ _ _ h => h) (Or.inl ⟨by rfl, ?_⟩) hHeld ?_ ?_
            rotate_left
            ·rintro w' ⟨s0, s1, s2, s3, s4, s5, s6, s7, s8, s9, s10, s11, s12, s13, s14, s15, s16, s17, s18, s19, s20⟩
             go_simp
             with_reducible rfl
            rotate_left
            ·simp only [Act.put, List.setIfInBounds_toArray, List.set_cons_zero, List.set_cons_succ, i64_w, i32_w]
             rfl
            refine take_ (i := 7) (N := some 31) (v := ?_) (a' := ?_) #[true, true, false, true, true, false, true, true, false, false, false, false] rfl rfl (take_ofW HT_.out HW_.out (by kernel_rfl)) (fun _ _ _ h => h) (Or.inl ⟨by rfl, ?_⟩) hHeld ?_ ?_
            rotate_left
            ·rintro w' ⟨s0, s1, s2, s3, s4, s5, s6, s7, s8, s9, s10, s11, s12, s13, s14, s15, s16, s17, s18, s19, s20⟩
             go_simp
             with_reducible rfl
            rotate_left
            ·simp only [Act.put, List.setIfInBounds_toArray, List.set_cons_zero, List.set_cons_succ, i64_w, i32_w]
             rfl
            refine one_ (i := 2) (N := some 26) #[true, true, true, true, true, false, true, true, false, false, false, false] rfl rfl (one_of HT_.out (by kernel_rfl)) (by decide) (fun K hK => ?_)
            refine goes_ Try.func12 (by kernel_rfl) rfl #[.agg #[.int .i64 ai, .int .i64 aj, .int .i64 ak, .slice av af.length aw, .slice ax ag.length ay, .int .i64 al, .slice az ah.length ba], .agg #[.int .i64 ap, .int .i64 aq, .int .i64 ar, .slice bh am.length bi, .slice bj an.length bk, .int .i64 au, .slice bl ao.length bm]] (by rfl) rfl rfl (by (try simp only [List.map_toArray, List.map_cons, List.map_nil]); first | done | rfl) ?_
            with_reducible refine (attr_Compare.calls dm ai aj ak _ _ af _ _ ag al _ _ ah ap aq ar _ _ am _ _ an au _ _ ao t250 _ ?side1 ?side2 ?side3 ?side4 ?side5 ?side6 ?side7 ?side8 ?side9 ?side10 ?side11 ?side12 dn.out).mono ?_
            (case side1 | side3 | side5 | side7 | side9 | side11 => repeat (first | exact (Kd.C_below bb.out HB.out) | exact (Kd.C_below bd.out HB.out) | exact (Kd.C_below bf.out HB.out) | exact (Kd.C_below bn.out HB.out) | exact (Kd.C_below bp.out HB.out) | exact (Kd.C_below br.out HB.out) | (with_reducible refine Kd.C_alloc ?_ _) | (with_reducible refine Kd.C_drewN ?_ _) | (with_reducible refine Kd.C_drew ?_)))
            (case side2 | side4 | side6 | side8 | side10 | side12 => first | exact bc.out | exact be.out | exact bg.out | exact bo.out | exact bq.out | exact bs.out)
            rintro e w86 ⟨rfl, hb⟩
            refine ⟨_, rfl, ?_⟩
            replace aa := Aside0.mk (kc707.q aa.out rfl hb)
            replace ab := Aside0.mk (kc707.q ab.out rfl hb)
            replace ad := Aside0.mk (kc707.q ad.out rfl hb)
            replace HB := Aside0.mk (kc707.z HB.out rfl rfl rfl rfl hb)
            (try clear hb)
            (try clear df)
            (try clear hk)
            (try clear hi)
            refine hK.out _ _ (kc707.b7 aa.out (kc707.b7 ab.out (kc707.b7e ad.out))) (fun hHeld => ?_)
            clear hK K
            refine norm_ (a' := ?_) ?_ ?_
            rotate_left
            ·show Act.put _ (some 26) _ = _
             simp only [Act.put, List.setIfInBounds_toArray, List.set_cons_zero, List.set_cons_succ, i64_w, i32_w]
             rfl
            refine one_ (i := 5) (N := some 29) #[true, true, true, true, true, true, true, true, false, false, false, false] rfl rfl (one_of HT_.out (by kernel_rfl)) (by decide) (fun K hK => ?_)
            refine goes_ Try.func12 (by kernel_rfl) rfl #[.agg #[.int .i64 ap, .int .i64 aq, .int .i64 ar, .slice bh am.length bi, .slice bj an.length bk, .int .i64 au, .slice bl ao.length bm], .agg #[.int .i64 bw, .int .i64 bx, .int .i64 bz, .slice b8 bt.length b9, .slice da bu.length db, .int .i64 b0, .slice dc bv.length dd]] (by rfl) rfl rfl (by (try simp only [List.map_toArray, List.map_cons, List.map_nil]); first | done | rfl) ?_
            with_reducible refine (attr_Compare.calls dm ap aq ar _ _ am _ _ an au _ _ ao bw bx bz _ _ bt _ _ bu b0 _ _ bv t251 _ ?side1 ?side2 ?side3 ?side4 ?side5 ?side6 ?side7 ?side8 ?side9 ?side10 ?side11 ?side12 dp.out).mono ?_
            (case side1 | side3 | side5 | side7 | side9 | side11 => repeat (first | exact (Kd.C_below bn.out HB.out) | exact (Kd.C_below bp.out HB.out) | exact (Kd.C_below br.out HB.out) | exact (Kd.C_below dg.out HB.out) | exact (Kd.C_below di.out HB.out) | exact (Kd.C_below dk.out HB.out) | (with_reducible refine Kd.C_alloc ?_ _) | (with_reducible refine Kd.C_drewN ?_ _) | (with_reducible refine Kd.C_drew ?_)))
            (case side2 | side4 | side6 | side8 | side10 | side12 => first | exact bo.out | exact bq.out | exact bs.out | exact dh.out | exact dj.out | exact dl.out)
            rintro e w87 ⟨rfl, hb⟩
            refine ⟨_, rfl, ?_⟩
            replace aa := Aside0.mk (kc707.q aa.out rfl hb)
            replace ab := Aside0.mk (kc707.q ab.out rfl hb)
            replace ad := Aside0.mk (kc707.q ad.out rfl hb)
            replace HB := Aside0.mk (kc707.z HB.out rfl rfl rfl rfl hb)
            (try clear hb)
            (try clear df)
            (try clear hk)
            (try clear hi)
            refine hK.out _ _ (kc707.b7 aa.out (kc707.b7 ab.out (kc707.b7e ad.out))) (fun hHeld => ?_)
            clear hK K
            refine norm_ (a' := ?_) ?_ ?_
            rotate_left
            ·show Act.put _ (some 29) _ = _
             simp only [Act.put, List.setIfInBounds_toArray, List.set_cons_zero, List.set_cons_succ, i64_w, i32_w]
             rfl
            refine one_ (i := 8) (N := some 32) #[true, true, true, true, true, true, true, true, true, false, false, false] rfl rfl (one_of HT_.out (by kernel_rfl)) (by decide) (fun K hK => ?_)
            refine goes_ Try.func12 (by kernel_rfl) rfl #[.agg #[.int .i64 ai, .int .i64 aj, .int .i64 ak, .slice av af.length aw, .slice ax ag.length ay, .int .i64 al, .slice az ah.length ba], .agg #[.int .i64 bw, .int .i64 bx, .int .i64 bz, .slice b8 bt.length b9, .slice da bu.length db, .int .i64 b0, .slice dc bv.length dd]] (by rfl) rfl rfl (by (try simp only [List.map_toArray, List.map_cons, List.map_nil]); first | done | rfl) ?_
            with_reducible refine (attr_Compare.calls dm ai aj ak _ _ af _ _ ag al _ _ ah bw bx bz _ _ bt _ _ bu b0 _ _ bv t252 _ ?side1 ?side2 ?side3 ?side4 ?side5 ?side6 ?side7 ?side8 ?side9 ?side10 ?side11 ?side12 dq.out).mono ?_
            (case side1 | side3 | side5 | side7 | side9 | side11 => repeat (first | exact (Kd.C_below bb.out HB.out) | exact (Kd.C_below bd.out HB.out) | exact (Kd.C_below bf.out HB.out) | exact (Kd.C_below dg.out HB.out) | exact (Kd.C_below di.out HB.out) | exact (Kd.C_below dk.out HB.out) | (with_reducible refine Kd.C_alloc ?_ _) | (with_reducible refine Kd.C_drewN ?_ _) | (with_reducible refine Kd.C_drew ?_)))
            (case side2 | side4 | side6 | side8 | side10 | side12 => first | exact bc.out | exact be.out | exact bg.out | exact dh.out | exact dj.out | exact dl.out)
            rintro e w88 ⟨rfl, hb⟩
            refine ⟨_, rfl, ?_⟩
            replace aa := Aside0.mk (kc707.q aa.out rfl hb)
            replace ab := Aside0.mk (kc707.q ab.out rfl hb)
            replace ad := Aside0.mk (kc707.q ad.out rfl hb)
            replace HB := Aside0.mk (kc707.z HB.out rfl rfl rfl rfl hb)
            (try clear hb)
            (try clear df)
            (try clear hk)
            (try clear hi)
            refine hK.out _ _ (kc707.b7 aa.out (kc707.b7 ab.out (kc707.b7e ad.out))) (fun hHeld => ?_)
            clear hK K
            refine norm_ (a' := ?_) ?_ ?_
            rotate_left
            ·show Act.put _ (some 32) _ = _
             simp only [Act.put, List.setIfInBounds_toArray, List.set_cons_zero, List.set_cons_succ, i64_w, i32_w]
             rfl
            refine pure_ (i := 9) (N := some 7) (v := ?_) (a' := ?_) #[true, true, true, true, true, true, true, true, true, true, false, false] rfl rfl (any_of HT_.out (by kernel_rfl)) (fun _ _ _ h => h) (Or.inl ⟨by rfl, ?_⟩) ?_ ?_
            rotate_left
            ·intro w'
             go_simp
             with_reducible rfl
            rotate_left
            ·simp only [Act.put, List.setIfInBounds_toArray, List.set_cons_zero, List.set_cons_succ, i64_w, i32_w]
             rfl
            refine pure_ (i := 10) (N := some 8) (v := ?_) (a' := ?_) #[true, true, true, true, true, true, true, true, true, true, true, false] rfl rfl (any_of HT_.out (by kernel_rfl)) (fun _ _ _ h => h) (Or.inl ⟨by rfl, ?_⟩) ?_ ?_
            rotate_left
            ·intro w'
             go_simp
             with_reducible rfl
            rotate_left
            ·simp only [Act.put, List.setIfInBounds_toArray, List.set_cons_zero, List.set_cons_succ, i64_w, i32_w]
             rfl
            refine pure_ (i := 11) (N := some 9) (v := ?_) (a' := ?_) #[true, true, true, true, true, true, true, true, true, true, true, true] rfl rfl (any_of HT_.out (by kernel_rfl)) (fun _ _ _ h => h) (Or.inl ⟨by rfl, ?_⟩) ?_ ?_
            rotate_left
            ·intro w'
             go_simp
             with_reducible rfl
            rotate_left
            ·simp only [Act.put, List.setIfInBounds_toArray, List.set_cons_zero, List.set_cons_succ, i64_w, i32_w]
             rfl
            refine done_ (done_of HT_.out (by kernel_rfl)) ?_
            have hnb89 := b1.out
            have hnc89 := b2.out
            have hnb90 := b3.out
            have hnc90 := b4.out
            have hcz91_0 : w88.cell? ⟨ac, 0, none⟩ = some (.int .i64 ai) := (blk_cell aa.out 0).trans rfl
            have hcz91_1 : w88.cell? ⟨ac, 1, none⟩ = some (.int .i64 aj) := (blk_cell aa.out 1).trans rfl
            have hcz91_2 : w88.cell? ⟨ac, 2, none⟩ = some (.int .i64 ak) := (blk_cell aa.out 2).trans rfl
            have hcz91_3 : w88.cell? ⟨ac, 3, none⟩ = some (.slice av af.length aw) := (blk_cell aa.out 3).trans rfl
            have hcz91_4 : w88.cell? ⟨ac, 4, none⟩ = some (.slice ax ag.length ay) := (blk_cell aa.out 4).trans rfl
            have hcz91_5 : w88.cell? ⟨ac, 5, none⟩ = some (.int .i64 al) := (blk_cell aa.out 5).trans rfl
            have hcz91_6 : w88.cell? ⟨ac, 6, none⟩ = some (.slice az ah.length ba) := (blk_cell aa.out 6).trans rfl
            have hfz91_0 := blk_frozen aa.out 0
            have hfz91_1 := blk_frozen aa.out 1
            have hfz91_2 := blk_frozen aa.out 2
            have hfz91_3 := blk_frozen aa.out 3
            have hfz91_4 := blk_frozen aa.out 4
            have hfz91_5 := blk_frozen aa.out 5
            have hfz91_6 := blk_frozen aa.out 6
            have hnb92 := b5.out
            have hnc92 := b6.out
            have hcz93_0 : w88.cell? ⟨ae, 0, none⟩ = some (.int .i64 ap) := (blk_cell ab.out 0).trans rfl
            have hcz93_1 : w88.cell? ⟨ae, 1, none⟩ = some (.int .i64 aq) := (blk_cell ab.out 1).trans rfl
            have hcz93_2 : w88.cell? ⟨ae, 2, none⟩ = some (.int .i64 ar) := (blk_cell ab.out 2).trans rfl
            have hcz93_3 : w88.cell? ⟨ae, 3, none⟩ = some (.slice bh am.length bi) := (blk_cell ab.out 3).trans rfl
            have hcz93_4 : w88.cell? ⟨ae, 4, none⟩ = some (.slice bj an.length bk) := (blk_cell ab.out 4).trans rfl
            have hcz93_5 : w88.cell? ⟨ae, 5, none⟩ = some (.int .i64 au) := (blk_cell ab.out 5).trans rfl
            have hcz93_6 : w88.cell? ⟨ae, 6, none⟩ = some (.slice bl ao.length bm) := (blk_cell ab.out 6).trans rfl
            have hfz93_0 := blk_frozen ab.out 0
            have hfz93_1 := blk_frozen ab.out 1
            have hfz93_2 := blk_frozen ab.out 2
            have hfz93_3 := blk_frozen ab.out 3
            have hfz93_4 := blk_frozen ab.out 4
            have hfz93_5 := blk_frozen ab.out 5
            have hfz93_6 := blk_frozen ab.out 6
            try go_wp2_with (first | ((with_reducible refine gate_callee (f := 13) rfl ?_); refine goesL_ (some 36) rfl rfl Try.func13 (by kernel_rfl) rfl #[.agg #[.int .i64 ai, .int .i64 aj, .int .i64 ak, .slice av af.length aw, .slice ax ag.length ay, .int .i64 al, .slice az ah.length ba], .agg #[.int .i64 ap, .int .i64 aq, .int .i64 ar, .slice bh am.length bi, .slice bj an.length bk, .int .i64 au, .slice bl ao.length bm]] rfl (by (try simp only [List.map_toArray, List.map_cons, List.map_nil]); first | done | rfl) ?_; (with_reducible refine (whirligigref09_Compare.calls dm ai aj ak _ _ af _ _ ag al _ _ ah ap aq ar _ _ am _ _ an au _ _ ao t253 _ ?side1 ?side2 ?side3 ?side4 ?side5 ?side6 ?side7 ?side8 ?side9 ?side10 ?side11 ?side12 dr.out).mono ?_); (case side1 | side3 | side5 | side7 | side9 | side11 => repeat (first | exact (Kd.C_below bb.out HB.out) | exact (Kd.C_below bd.out HB.out) | exact (Kd.C_below bf.out HB.out) | exact (Kd.C_below bn.out HB.out) | exact (Kd.C_below bp.out HB.out) | exact (Kd.C_below br.out HB.out) | (with_reducible refine Kd.C_alloc ?_ _) | (with_reducible refine Kd.C_drewN ?_ _) | (with_reducible refine Kd.C_drew ?_))); (case side2 | side4 | side6 | side8 | side10 | side12 => first | exact bc.out | exact be.out | exact bg.out | exact bo.out | exact bq.out | exact bs.out); rintro e w94 ⟨rfl, hb⟩; refine ⟨_, rfl, ?_⟩; replace aa := Aside0.mk (kc707.q aa.out rfl hb); replace ab := Aside0.mk (kc707.q ab.out rfl hb); replace ad := Aside0.mk (kc707.q ad.out rfl hb); replace HB := Aside0.mk (kc707.z HB.out rfl rfl rfl rfl hb); (try clear hb); (try clear df); (try clear hk); (try clear hi); have hcz95_0 : w94.cell? ⟨ae, 0, none⟩ = some (.int .i64 ap) := (blk_cell ab.out 0).trans rfl; have hcz95_1 : w94.cell? ⟨ae, 1, none⟩ = some (.int .i64 aq) := (blk_cell ab.out 1).trans rfl; have hcz95_2 : w94.cell? ⟨ae, 2, none⟩ = some (.int .i64 ar) := (blk_cell ab.out 2).trans rfl; have hcz95_3 : w94.cell? ⟨ae, 3, none⟩ = some (.slice bh am.length bi) := (blk_cell ab.out 3).trans rfl; have hcz95_4 : w94.cell? ⟨ae, 4, none⟩ = some (.slice bj an.length bk) := (blk_cell ab.out 4).trans rfl; have hcz95_5 : w94.cell? ⟨ae, 5, none⟩ = some (.int .i64 au) := (blk_cell ab.out 5).trans rfl; have hcz95_6 : w94.cell? ⟨ae, 6, none⟩ = some (.slice bl ao.length bm) := (blk_cell ab.out 6).trans rfl; have hfz95_0 := blk_frozen ab.out 0; have hfz95_1 := blk_frozen ab.out 1; have hfz95_2 := blk_frozen ab.out 2; have hfz95_3 := blk_frozen ab.out 3; have hfz95_4 := blk_frozen ab.out 4; have hfz95_5 := blk_frozen ab.out 5; have hfz95_6 := blk_frozen ab.out 6; have hcz96_0 : w94.cell? ⟨ac, 0, none⟩ = some (.int .i64 ai) := (blk_cell aa.out 0).trans rfl; have hcz96_1 : w94.cell? ⟨ac, 1, none⟩ = some (.int .i64 aj) := (blk_cell aa.out 1).trans rfl; have hcz96_2 : w94.cell? ⟨ac, 2, none⟩ = some (.int .i64 ak) := (blk_cell aa.out 2).trans rfl; have hcz96_3 : w94.cell? ⟨ac, 3, none⟩ = some (.slice av af.length aw) := (blk_cell aa.out 3).trans rfl; have hcz96_4 : w94.cell? ⟨ac, 4, none⟩ = some (.slice ax ag.length ay) := (blk_cell aa.out 4).trans rfl; have hcz96_5 : w94.cell? ⟨ac, 5, none⟩ = some (.int .i64 al) := (blk_cell aa.out 5).trans rfl; have hcz96_6 : w94.cell? ⟨ac, 6, none⟩ = some (.slice az ah.length ba) := (blk_cell aa.out 6).trans rfl; have hfz96_0 := blk_frozen aa.out 0; have hfz96_1 := blk_frozen aa.out 1; have hfz96_2 := blk_frozen aa.out 2; have hfz96_3 := blk_frozen aa.out 3; have hfz96_4 := blk_frozen aa.out 4; have hfz96_5 := blk_frozen aa.out 5; have hfz96_6 := blk_frozen aa.out 6) | (go_at_call 12; (with_reducible refine (attr_Compare.calls dm ap aq ar _ _ am _ _ an au _ _ ao ai aj ak _ _ af _ _ ag al _ _ ah t254 _ ?side1 ?side2 ?side3 ?side4 ?side5 ?side6 ?side7 ?side8 ?side9 ?side10 ?side11 ?side12 dt.out).mono ?_); (case side1 | side3 | side5 | side7 | side9 | side11 => repeat (first | exact (Kd.C_below bn.out HB.out) | exact (Kd.C_below bp.out HB.out) | exact (Kd.C_below br.out HB.out) | exact (Kd.C_below bb.out HB.out) | exact (Kd.C_below bd.out HB.out) | exact (Kd.C_below bf.out HB.out) | (with_reducible refine Kd.C_alloc ?_ _) | (with_reducible refine Kd.C_drewN ?_ _) | (with_reducible refine Kd.C_drew ?_))); (case side2 | side4 | side6 | side8 | side10 | side12 => first | exact bo.out | exact bq.out | exact bs.out | exact bc.out | exact be.out | exact bg.out); rintro e w97 ⟨rfl, hb⟩; replace aa := Aside0.mk (kc707.q aa.out rfl hb); replace ab := Aside0.mk (kc707.q ab.out rfl hb); replace ad := Aside0.mk (kc707.q ad.out rfl hb); replace HB := Aside0.mk (kc707.z HB.out rfl rfl rfl rfl hb); (try clear hb); (try clear df); (try clear hk); (try clear hi); have hcz98_0 : w97.cell? ⟨ac, 0, none⟩ = some (.int .i64 ai) := (blk_cell aa.out 0).trans rfl; have hcz98_1 : w97.cell? ⟨ac, 1, none⟩ = some (.int .i64 aj) := (blk_cell aa.out 1).trans rfl; have hcz98_2 : w97.cell? ⟨ac, 2, none⟩ = some (.int .i64 ak) := (blk_cell aa.out 2).trans rfl; have hcz98_3 : w97.cell? ⟨ac, 3, none⟩ = some (.slice av af.length aw) := (blk_cell aa.out 3).trans rfl; have hcz98_4 : w97.cell? ⟨ac, 4, none⟩ = some (.slice ax ag.length ay) := (blk_cell aa.out 4).trans rfl; have hcz98_5 : w97.cell? ⟨ac, 5, none⟩ = some (.int .i64 al) := (blk_cell aa.out 5).trans rfl; have hcz98_6 : w97.cell? ⟨ac, 6, none⟩ = some (.slice az ah.length ba) := (blk_cell aa.out 6).trans rfl; have hfz98_0 := blk_frozen aa.out 0; have hfz98_1 := blk_frozen aa.out 1; have hfz98_2 := blk_frozen aa.out 2; have hfz98_3 := blk_frozen aa.out 3; have hfz98_4 := blk_frozen aa.out 4; have hfz98_5 := blk_frozen aa.out 5; have hfz98_6 := blk_frozen aa.out 6) | (go_at_call 12; (with_reducible refine (attr_Compare.calls dm ai aj ak _ _ af _ _ ag al _ _ ah ai aj ak _ _ af _ _ ag al _ _ ah t255 _ ?side1 ?side2 ?side3 ?side4 ?side5 ?side6 ?side7 ?side8 ?side9 ?side10 ?side11 ?side12 du.out).mono ?_); (case side1 | side3 | side5 | side7 | side9 | side11 => repeat (first | exact (Kd.C_below bb.out HB.out) | exact (Kd.C_below bd.out HB.out) | exact (Kd.C_below bf.out HB.out) | (with_reducible refine Kd.C_alloc ?_ _) | (with_reducible refine Kd.C_drewN ?_ _) | (with_reducible refine Kd.C_drew ?_))); (case side2 | side4 | side6 | side8 | side10 | side12 => first | exact bc.out | exact be.out | exact bg.out); rintro e w99 ⟨rfl, hb⟩; replace aa := Aside0.mk (kc707.q aa.out rfl hb); replace ab := Aside0.mk (kc707.q ab.out rfl hb); replace ad := Aside0.mk (kc707.q ad.out rfl hb); replace HB := Aside0.mk (kc707.z HB.out rfl rfl rfl rfl hb); (try clear hb); (try clear df); (try clear hk); (try clear hi)) | (go_at_call 10; (with_reducible refine (whirligiglaw09_lives.calls dm  t258 _ A84.out).mono ?_); rintro e w100 ⟨rfl, hb⟩; replace aa := Aside0.mk (kc707.q aa.out rfl hb); replace ab := Aside0.mk (kc707.q ab.out rfl hb); replace ad := Aside0.mk (kc707.q ad.out rfl hb); replace HB := Aside0.mk (kc707.z HB.out rfl rfl rfl rfl hb); (try clear hb); (try clear df); (try clear hk); (try clear hi)))
            go_ret
            exact ⟨by first | rfl | (simp [errW_none, errW_some] <;> rfl) | (simp [*, errW_none, errW_some] <;> rfl), by repeat (first | (with_reducible first | exact HB.out | apply below_alloc | apply pw_below_drewN | apply below_drew1) | exact HB.out)⟩
           ·rw [if_neg c83] at H
            have c83b0 : (t251 == 0) = false := beq_eq_false_iff_ne.mpr c83
            have c83b1 : (t251 != 0) = true := bne_iff_ne.mpr c83
            by_cases c101 : t252 < 0
            ·rw [if_pos c101] at H
             have c101b0 : decide (t252 < 0) = true := decide_eq_true c101
             clear c101
             replace H := Option.bind_eq_some_iff.mp H
             obtain ⟨t259, A1020, H⟩ := H
             replace H : (some t259) = some r := H
             have A102 := Aside0.mk A1020
             clear A1020
             obtain rfl := Option.some.inj H
             try go_wp2
             replace aa := Aside0.mk (blk_drew aa.out)
             replace ab := Aside0.mk (blk_drew ab.out)
             replace ad := Aside0.mk (blk_drew ad.out)
             replace HB := Aside0.mk (below_drew1 HB.out)
             refine start_ (n := 12) (S := kc707.S0 ac ae de (.int .i64 ai) (.int .i64 aj) (.int .i64 ak) (.slice av af.length aw) (.slice ax ag.length ay) (.int .i64 al) (.slice az ah.length ba) (.int .i64 ap) (.int .i64 aq) (.int .i64 ar) (.slice bh am.length bi) (.slice bj an.length bk) (.int .i64 au) (.slice bl ao.length bm) (.int .i64 bw) (.int .i64 bx) (.int .i64 bz) (.slice b8 bt.length b9) (.slice da bu.length db) (.int .i64 b0) (.slice dc bv.length dd)) (ds := []) #[false, false, false, false, false, false, false, false, false, false, false, false] (by kernel_rfl) rfl rfl (kc707.b7 aa.out (kc707.b7 ab.out (kc707.b7e ad.out))) (fun hHeld => ?_); refine with_tabW whirligiglaw09_AttrOrder.tab3 whirligiglaw09_AttrOrder.bits3 (fun HT_ HW_ => ?_)
             generalize wc.drew = w103 at aa ab ad HB hHeld ⊢
             refine take_ (i := 0) (N := some 24) (v := ?_) (a' := ?_) #[true, false, false, false, false, false, false, false, false, false, false, false] rfl rfl (take_ofW HT_.out HW_.out (by kernel_rfl)) (fun _ _ _ h => h) (Or.inl ⟨by rfl, ?_⟩) hHeld ?_ ?_
             rotate_left
             ·rintro w' ⟨s0, s1, s2, s3, s4, s5, s6, s7, s8, s9, s10, s11, s12, s13, s14, s15, s16, s17, s18, s19, s20⟩
              go_simp
              with_reducible rfl
             rotate_left
             ·simp only [Act.put, List.setIfInBounds_toArray, List.set_cons_zero, List.set_cons_succ, i64_w, i32_w]
              rfl
             refine take_ (i := 1) (N := some 25) (v := ?_) (a' := ?_) #[true, true, false, false, false, false, false, false, false, false, false, false] rfl rfl (take_ofW HT_.out HW_.out (by kernel_rfl)) (fun _ _ _ h => h) (Or.inl ⟨by rfl, ?_⟩) hHeld ?_ ?_
             rotate_left
             ·rintro w' ⟨s0, s1, s2, s3, s4, s5, s6, s7, s8, s9, s10, s11, s12, s13, s14, s15, s16, s17, s18, s19, s20⟩
              go_simp
              with_reducible rfl
             rotate_left
             ·simp only [Act.put, List.setIfInBounds_toArray, List.set_cons_zero, List.set_cons_succ, i64_w, i32_w]
              rfl
             refine take_ (i := 3) (N := some 27) (v := ?_) (a' := ?_) #[true, true, false, true, false, false, false, false, false, false, false, false] rfl rfl (take_ofW HT_.out HW_.out (by kernel_rfl)) (fun _ _ _ h => h) (Or.inl ⟨by rfl, ?_⟩) hHeld ?_ ?_
             rotate_left
             ·rintro w' ⟨s0, s1, s2, s3, s4, s5, s6, s7, s8, s9, s10, s11, s12, s13, s14, s15, s16, s17, s18, s19, s20⟩
              go_simp
              with_reducible rfl
             rotate_left
             ·simp only [Act.put, List.setIfInBounds_toArray, List.set_cons_zero, List.set_cons_succ, i64_w, i32_w]
              rfl
             refine take_ (i := 4) (N := some 28) (v := ?_) (a' := ?_) #[true, true, false, true, true, false, false, false, false, false, false, false] rfl rfl (take_ofW HT_.out HW_.out (by kernel_rfl)) (fun _ _ _ h => h) (Or.inl ⟨by rfl, ?_⟩) hHeld ?_ ?_
             rotate_left
             ·rintro w' ⟨s0, s1, s2, s3, s4, s5, s6, s7, s8, s9, s10, s11, s12, s13, s14, s15, s16, s17, s18, s19, s20⟩
              go_simp
              with_reducible rfl
             rotate_left
             ·simp only [Act.put, List.setIfInBounds_toArray, List.set_cons_zero, List.set_cons_succ, i64_w, i32_w]
              rfl
             refine take_ (i := 6) (N := some 30) (v := ?_) (a' := ?_) #[true, true, false, true, true, false, true, false, false, false, false, false] rfl rfl (take_ofW HT_.out HW_.out (by kernel_rfl)) (fun _ _ _ h => h) (Or.inl ⟨by rfl, ?_⟩) hHeld ?_ ?_
             rotate_left
             ·rintro w' ⟨s0, s1, s2, s3, s4, s5, s6, s7, s8, s9, s10, s11, s12, s13, s14, s15, s16, s17, s18, s19, s20⟩
              go_simp
              with_reducible rfl
             rotate_left
             ·simp only [Act.put, List.setIfInBounds_toArray, List.set_cons_zero, List.set_cons_succ, i64_w, i32_w]
              rfl
             refine take_ (i := 7) (N := some 31) (v := ?_) (a' := ?_) #[true, true, false, true, true, false, true, true, false, false, false, false] rfl rfl (take_ofW HT_.out HW_.out (by kernel_rfl)) (fun _ _ _ h => h) (Or.inl ⟨by rfl, ?_⟩) hHeld ?_ ?_
             rotate_left
             ·rintro w' ⟨s0, s1, s2, s3, s4, s5, s6, s7, s8, s9, s10, s11, s12, s13, s14, s15, s16, s17, s18, s19, s20⟩
              go_simp
              with_reducible rfl
             rotate_left
             ·simp only [Act.put, List.setIfInBounds_toArray, List.set_cons_zero, List.set_cons_succ, i64_w, i32_w]
              rfl
             refine one_ (i := 2) (N := some 26) #[true, true, true, true, true, false, true, true, false, false, false, false] rfl rfl (one_of HT_.out (by kernel_rfl)) (by decide) (fun K hK => ?_)
             refine goes_ Try.func12 (by kernel_rfl) rfl #[.agg #[.int .i64 ai, .int .i64 aj, .int .i64 ak, .slice av af.length aw, .slice ax ag.length ay, .int .i64 al, .slice az ah.length ba], .agg #[.int .i64 ap, .int .i64 aq, .int .i64 ar, .slice bh am.length bi, .slice bj an.length bk, .int .i64 au, .slice bl ao.length bm]] (by rfl) rfl rfl (by (try simp only [List.map_toArray, List.map_cons, List.map_nil]); first | done | rfl) ?_
             with_reducible refine (attr_Compare.calls dm ai aj ak _ _ af _ _ ag al _ _ ah ap aq ar _ _ am _ _ an au _ _ ao t250 _ ?side1 ?side2 ?side3 ?side4 ?side5 ?side6 ?side7 ?side8 ?side9 ?side10 ?side11 ?side12 dn.out).mono ?_
             (case side1 | side3 | side5 | side7 | side9 | side11 => repeat (first | exact (Kd.C_below bb.out HB.out) | exact (Kd.C_below bd.out HB.out) | exact (Kd.C_below bf.out HB.out) | exact (Kd.C_below bn.out HB.out) | exact (Kd.C_below bp.out HB.out) | exact (Kd.C_below br.out HB.out) | (with_reducible refine Kd.C_alloc ?_ _) | (with_reducible refine Kd.C_drewN ?_ _) | (with_reducible refine Kd.C_drew ?_)))
             (case side2 | side4 | side6 | side8 | side10 | side12 => first | exact bc.out | exact be.out | exact bg.out | exact bo.out | exact bq.out | exact bs.out)
             rintro e w104 ⟨rfl, hb⟩
             refine ⟨_, rfl, ?_⟩
             replace aa := Aside0.mk (kc707.q aa.out rfl hb)
             replace ab := Aside0.mk (kc707.q ab.out rfl hb)
             replace ad := Aside0.mk (kc707.q ad.out rfl hb)
             replace HB := Aside0.mk (kc707.z HB.out rfl rfl rfl rfl hb)
             (try clear hb)
             (try clear df)
             (try clear hk)
             (try clear hi)
             refine hK.out _ _ (kc707.b7 aa.out (kc707.b7 ab.out (kc707.b7e ad.out))) (fun hHeld => ?_)
             clear hK K
             refine norm_ (a' := ?_) ?_ ?_
             rotate_left
             ·show Act.put _ (some 26) _ = _
              simp only [Act.put, List.setIfInBounds_toArray, List.set_cons_zero, List.set_cons_succ, i64_w, i32_w]
              rfl
             refine one_ (i := 5) (N := some 29) #[true, true, true, true, true, true, true, true, false, false, false, false] rfl rfl (one_of HT_.out (by kernel_rfl)) (by decide) (fun K hK => ?_)
             refine goes_ Try.func12 (by kernel_rfl) rfl #[.agg #[.int .i64 ap, .int .i64 aq, .int .i64 ar, .slice bh am.length bi, .slice bj an.length bk, .int .i64 au, .slice bl ao.length bm], .agg #[.int .i64 bw, .int .i64 bx, .int .i64 bz, .slice b8 bt.length b9, .slice da bu.length db, .int .i64 b0, .slice dc bv.length dd]] (by rfl) rfl rfl (by (try simp only [List.map_toArray, List.map_cons, List.map_nil]); first | done | rfl) ?_
             with_reducible refine (attr_Compare.calls dm ap aq ar _ _ am _ _ an au _ _ ao bw bx bz _ _ bt _ _ bu b0 _ _ bv t251 _ ?side1 ?side2 ?side3 ?side4 ?side5 ?side6 ?side7 ?side8 ?side9 ?side10 ?side11 ?side12 dp.out).mono ?_
             (case side1 | side3 | side5 | side7 | side9 | side11 => repeat (first | exact (Kd.C_below bn.out HB.out) | exact (Kd.C_below bp.out HB.out) | exact (Kd.C_below br.out HB.out) | exact (Kd.C_below dg.out HB.out) | exact (Kd.C_below di.out HB.out) | exact (Kd.C_below dk.out HB.out) | (with_reducible refine Kd.C_alloc ?_ _) | (with_reducible refine Kd.C_drewN ?_ _) | (with_reducible refine Kd.C_drew ?_)))
             (case side2 | side4 | side6 | side8 | side10 | side12 => first | exact bo.out | exact bq.out | exact bs.out | exact dh.out | exact dj.out | exact dl.out)
             rintro e w105 ⟨rfl, hb⟩
             refine ⟨_, rfl, ?_⟩
             replace aa := Aside0.mk (kc707.q aa.out rfl hb)
             replace ab := Aside0.mk (kc707.q ab.out rfl hb)
             replace ad := Aside0.mk (kc707.q ad.out rfl hb)
             replace HB := Aside0.mk (kc707.z HB.out rfl rfl rfl rfl hb)
             (try clear hb)
             (try clear df)
             (try clear hk)
             (try clear hi)
             refine hK.out _ _ (kc707.b7 aa.out (kc707.b7 ab.out (kc707.b7e ad.out))) (fun hHeld => ?_)
             clear hK K
             refine norm_ (a' := ?_) ?_ ?_
             rotate_left
             ·show Act.put _ (some 29) _ = _
              simp only [Act.put, List.setIfInBounds_toArray, List.set_cons_zero, List.set_cons_succ, i64_w, i32_w]
              rfl
             refine one_ (i := 8) (N := some 32) #[true, true, true, true, true, true, true, true, true, false, false, false] rfl rfl (one_of HT_.out (by kernel_rfl)) (by decide) (fun K hK => ?_)
             refine goes_ Try.func12 (by kernel_rfl) rfl #[.agg #[.int .i64 ai, .int .i64 aj, .int .i64 ak, .slice av af.length aw, .slice ax ag.length ay, .int .i64 al, .slice az ah.length ba], .agg #[.int .i64 bw, .int .i64 bx, .int .i64 bz, .slice b8 bt.length b9, .slice da bu.length db, .int .i64 b0, .slice dc bv.length dd]] (by rfl) rfl rfl (by (try simp only [List.map_toArray, List.map_cons, List.map_nil]); first | done | rfl) ?_
             with_reducible refine (attr_Compare.calls dm ai aj ak _ _ af _ _ ag al _ _ ah bw bx bz _ _ bt _ _ bu b0 _ _ bv t252 _ ?side1 ?side2 ?side3 ?side4 ?side5 ?side6 ?side7 ?side8 ?side9 ?side10 ?side11 ?side12 dq.out).mono ?_
             (case side1 | side3 | side5 | side7 | side9 | side11 => repeat (first | exact (Kd.C_below bb.out HB.out) | exact (Kd.C_below bd.out HB.out) | exact (Kd.C_below bf.out HB.out) | exact (Kd.C_below dg.out HB.out) | exact (Kd.C_below di.out HB.out) | exact (Kd.C_below dk.out HB.out) | (with_reducible refine Kd.C_alloc ?_ _) | (with_reducible refine Kd.C_drewN ?_ _) | (with_reducible refine Kd.C_drew ?_)))
             (case side2 | side4 | side6 | side8 | side10 | side12 => first | exact bc.out | exact be.out | exact bg.out | exact dh.out | exact dj.out | exact dl.out)
             rintro e w106 ⟨rfl, hb⟩
             refine ⟨_, rfl, ?_⟩
             replace aa := Aside0.mk (kc707.q aa.out rfl hb)
             replace ab := Aside0.mk (kc707.q ab.out rfl hb)
             replace ad := Aside0.mk (kc707.q ad.out rfl hb)
             replace HB := Aside0.mk (kc707.z HB.out rfl rfl rfl rfl hb)
             (try clear hb)
             (try clear df)
             (try clear hk)
             (try clear hi)
             refine hK.out _ _ (kc707.b7 aa.out (kc707.b7 ab.out (kc707.b7e ad.out))) (fun hHeld => ?_)
             clear hK K
             refine norm_ (a' := ?_) ?_ ?_
             rotate_left
             ·show Act.put _ (some 32) _ = _
              simp only [Act.put, List.setIfInBounds_toArray, List.set_cons_zero, List.set_cons_succ, i64_w, i32_w]
              rfl
             refine pure_ (i := 9) (N := some 7) (v := ?_) (a' := ?_) #[true, true, true, true, true, true, true, true, true, true, false, false] rfl rfl (any_of HT_.out (by kernel_rfl)) (fun _ _ _ h => h) (Or.inl ⟨by rfl, ?_⟩) ?_ ?_
             rotate_left
             ·intro w'
              go_simp
              with_reducible rfl
             rotate_left
             ·simp only [Act.put, List.setIfInBounds_toArray, List.set_cons_zero, List.set_cons_succ, i64_w, i32_w]
              rfl
             refine pure_ (i := 10) (N := some 8) (v := ?_) (a' := ?_) #[true, true, true, true, true, true, true, true, true, true, true, false] rfl rfl (any_of HT_.out (by kernel_rfl)) (fun _ _ _ h => h) (Or.inl ⟨by rfl, ?_⟩) ?_ ?_
             rotate_left
             ·intro w'
              go_simp
              with_reducible rfl
             rotate_left
             ·simp only [Act.put, List.setIfInBounds_toArray, List.set_cons_zero, List.set_cons_succ, i64_w, i32_w]
              rfl
             refine pure_ (i := 11) (N := some 9) (v := ?_) (a' := ?_) #[true, true, true, true, true, true, true, true, true, true, true, true] rfl rfl (any_of HT_.out (by kernel_rfl)) (fun _ _ _ h => h) (Or.inl ⟨by rfl, ?_⟩) ?_ ?_
             rotate_left
             ·intro w'
              go_simp
              with_reducible rfl
             rotate_left
             ·simp only [Act.put, List.setIfInBounds_toArray, List.set_cons_zero, List.set_cons_succ, i64_w, i32_w]
              rfl
             refine done_ (done_of HT_.out (by kernel_rfl)) ?_
             have hnb107 := b1.out
             have hnc107 := b2.out
             have hnb108 := b3.out
             have hnc108 := b4.out
             have hcz109_0 : w106.cell? ⟨ac, 0, none⟩ = some (.int .i64 ai) := (blk_cell aa.out 0).trans rfl
             have hcz109_1 : w106.cell? ⟨ac, 1, none⟩ = some (.int .i64 aj) := (blk_cell aa.out 1).trans rfl
             have hcz109_2 : w106.cell? ⟨ac, 2, none⟩ = some (.int .i64 ak) := (blk_cell aa.out 2).trans rfl
             have hcz109_3 : w106.cell? ⟨ac, 3, none⟩ = some (.slice av af.length aw) := (blk_cell aa.out 3).trans rfl
             have hcz109_4 : w106.cell? ⟨ac, 4, none⟩ = some (.slice ax ag.length ay) := (blk_cell aa.out 4).trans rfl
             have hcz109_5 : w106.cell? ⟨ac, 5, none⟩ = some (.int .i64 al) := (blk_cell aa.out 5).trans rfl
             have hcz109_6 : w106.cell? ⟨ac, 6, none⟩ = some (.slice az ah.length ba) := (blk_cell aa.out 6).trans rfl
             have hfz109_0 := blk_frozen aa.out 0
             have hfz109_1 := blk_frozen aa.out 1
             have hfz109_2 := blk_frozen aa.out 2
             have hfz109_3 := blk_frozen aa.out 3
             have hfz109_4 := blk_frozen aa.out 4
             have hfz109_5 := blk_frozen aa.out 5
             have hfz109_6 := blk_frozen aa.out 6
             have hnb110 := b5.out
             have hnc110 := b6.out
             have hcz111_0 : w106.cell? ⟨ae, 0, none⟩ = some (.int .i64 ap) := (blk_cell ab.out 0).trans rfl
             have hcz111_1 : w106.cell? ⟨ae, 1, none⟩ = some (.int .i64 aq) := (blk_cell ab.out 1).trans rfl
             have hcz111_2 : w106.cell? ⟨ae, 2, none⟩ = some (.int .i64 ar) := (blk_cell ab.out 2).trans rfl
             have hcz111_3 : w106.cell? ⟨ae, 3, none⟩ = some (.slice bh am.length bi) := (blk_cell ab.out 3).trans rfl
             have hcz111_4 : w106.cell? ⟨ae, 4, none⟩ = some (.slice bj an.length bk) := (blk_cell ab.out 4).trans rfl
             have hcz111_5 : w106.cell? ⟨ae, 5, none⟩ = some (.int .i64 au) := (blk_cell ab.out 5).trans rfl
             have hcz111_6 : w106.cell? ⟨ae, 6, none⟩ = some (.slice bl ao.length bm) := (blk_cell ab.out 6).trans rfl
             have hfz111_0 := blk_frozen ab.out 0
             have hfz111_1 := blk_frozen ab.out 1
             have hfz111_2 := blk_frozen ab.out 2
             have hfz111_3 := blk_frozen ab.out 3
             have hfz111_4 := blk_frozen ab.out 4
             have hfz111_5 := blk_frozen ab.out 5
             have hfz111_6 := blk_frozen ab.out 6
             try go_wp2_with (first | ((with_reducible refine gate_callee (f := 13) rfl ?_); refine goesL_ (some 36) rfl rfl Try.func13 (by kernel_rfl) rfl #[.agg #[.int .i64 ai, .int .i64 aj, .int .i64 ak, .slice av af.length aw, .slice ax ag.length ay, .int .i64 al, .slice az ah.length ba], .agg #[.int .i64 ap, .int .i64 aq, .int .i64 ar, .slice bh am.length bi, .slice bj an.length bk, .int .i64 au, .slice bl ao.length bm]] rfl (by (try simp only [List.map_toArray, List.map_cons, List.map_nil]); first | done | rfl) ?_; (with_reducible refine (whirligigref09_Compare.calls dm ai aj ak _ _ af _ _ ag al _ _ ah ap aq ar _ _ am _ _ an au _ _ ao t253 _ ?side1 ?side2 ?side3 ?side4 ?side5 ?side6 ?side7 ?side8 ?side9 ?side10 ?side11 ?side12 dr.out).mono ?_); (case side1 | side3 | side5 | side7 | side9 | side11 => repeat (first | exact (Kd.C_below bb.out HB.out) | exact (Kd.C_below bd.out HB.out) | exact (Kd.C_below bf.out HB.out) | exact (Kd.C_below bn.out HB.out) | exact (Kd.C_below bp.out HB.out) | exact (Kd.C_below br.out HB.out) | (with_reducible refine Kd.C_alloc ?_ _) | (with_reducible refine Kd.C_drewN ?_ _) | (with_reducible refine Kd.C_drew ?_))); (case side2 | side4 | side6 | side8 | side10 | side12 => first | exact bc.out | exact be.out | exact bg.out | exact bo.out | exact bq.out | exact bs.out); rintro e w112 ⟨rfl, hb⟩; refine ⟨_, rfl, ?_⟩; replace aa := Aside0.mk (kc707.q aa.out rfl hb); replace ab := Aside0.mk (kc707.q ab.out rfl hb); replace ad := Aside0.mk (kc707.q ad.out rfl hb); replace HB := Aside0.mk (kc707.z HB.out rfl rfl rfl rfl hb); (try clear hb); (try clear df); (try clear hk); (try clear hi); have hcz113_0 : w112.cell? ⟨ae, 0, none⟩ = some (.int .i64 ap) := (blk_cell ab.out 0).trans rfl; have hcz113_1 : w112.cell? ⟨ae, 1, none⟩ = some (.int .i64 aq) := (blk_cell ab.out 1).trans rfl; have hcz113_2 : w112.cell? ⟨ae, 2, none⟩ = some (.int .i64 ar) := (blk_cell ab.out 2).trans rfl; have hcz113_3 : w112.cell? ⟨ae, 3, none⟩ = some (.slice bh am.length bi) := (blk_cell ab.out 3).trans rfl; have hcz113_4 : w112.cell? ⟨ae, 4, none⟩ = some (.slice bj an.length bk) := (blk_cell ab.out 4).trans rfl; have hcz113_5 : w112.cell? ⟨ae, 5, none⟩ = some (.int .i64 au) := (blk_cell ab.out 5).trans rfl; have hcz113_6 : w112.cell? ⟨ae, 6, none⟩ = some (.slice bl ao.length bm) := (blk_cell ab.out 6).trans rfl; have hfz113_0 := blk_frozen ab.out 0; have hfz113_1 := blk_frozen ab.out 1; have hfz113_2 := blk_frozen ab.out 2; have hfz113_3 := blk_frozen ab.out 3; have hfz113_4 := blk_frozen ab.out 4; have hfz113_5 := blk_frozen ab.out 5; have hfz113_6 := blk_frozen ab.out 6; have hcz114_0 : w112.cell? ⟨ac, 0, none⟩ = some (.int .i64 ai) := (blk_cell aa.out 0).trans rfl; have hcz114_1 : w112.cell? ⟨ac, 1, none⟩ = some (.int .i64 aj) := (blk_cell aa.out 1).trans rfl; have hcz114_2 : w112.cell? ⟨ac, 2, none⟩ = some (.int .i64 ak) := (blk_cell aa.out 2).trans rfl; have hcz114_3 : w112.cell? ⟨ac, 3, none⟩ = some (.slice av af.length aw) := (blk_cell aa.out 3).trans rfl; have hcz114_4 : w112.cell? ⟨ac, 4, none⟩ = some (.slice ax ag.length ay) := (blk_cell aa.out 4).trans rfl; have hcz114_5 : w112.cell? ⟨ac, 5, none⟩ = some (.int .i64 al) := (blk_cell aa.out 5).trans rfl; have hcz114_6 : w112.cell? ⟨ac, 6, none⟩ = some (.slice az ah.length ba) := (blk_cell aa.out 6).trans rfl; have hfz114_0 := blk_frozen aa.out 0; have hfz114_1 := blk_frozen aa.out 1; have hfz114_2 := blk_frozen aa.out 2; have hfz114_3 := blk_frozen aa.out 3; have hfz114_4 := blk_frozen aa.out 4; have hfz114_5 := blk_frozen aa.out 5; have hfz114_6 := blk_frozen aa.out 6) | (go_at_call 12; (with_reducible refine (attr_Compare.calls dm ap aq ar _ _ am _ _ an au _ _ ao ai aj ak _ _ af _ _ ag al _ _ ah t254 _ ?side1 ?side2 ?side3 ?side4 ?side5 ?side6 ?side7 ?side8 ?side9 ?side10 ?side11 ?side12 dt.out).mono ?_); (case side1 | side3 | side5 | side7 | side9 | side11 => repeat (first | exact (Kd.C_below bn.out HB.out) | exact (Kd.C_below bp.out HB.out) | exact (Kd.C_below br.out HB.out) | exact (Kd.C_below bb.out HB.out) | exact (Kd.C_below bd.out HB.out) | exact (Kd.C_below bf.out HB.out) | (with_reducible refine Kd.C_alloc ?_ _) | (with_reducible refine Kd.C_drewN ?_ _) | (with_reducible refine Kd.C_drew ?_))); (case side2 | side4 | side6 | side8 | side10 | side12 => first | exact bo.out | exact bq.out | exact bs.out | exact bc.out | exact be.out | exact bg.out); rintro e w115 ⟨rfl, hb⟩; replace aa := Aside0.mk (kc707.q aa.out rfl hb); replace ab := Aside0.mk (kc707.q ab.out rfl hb); replace ad := Aside0.mk (kc707.q ad.out rfl hb); replace HB := Aside0.mk (kc707.z HB.out rfl rfl rfl rfl hb); (try clear hb); (try clear df); (try clear hk); (try clear hi); have hcz116_0 : w115.cell? ⟨ac, 0, none⟩ = some (.int .i64 ai) := (blk_cell aa.out 0).trans rfl; have hcz116_1 : w115.cell? ⟨ac, 1, none⟩ = some (.int .i64 aj) := (blk_cell aa.out 1).trans rfl; have hcz116_2 : w115.cell? ⟨ac, 2, none⟩ = some (.int .i64 ak) := (blk_cell aa.out 2).trans rfl; have hcz116_3 : w115.cell? ⟨ac, 3, none⟩ = some (.slice av af.length aw) := (blk_cell aa.out 3).trans rfl; have hcz116_4 : w115.cell? ⟨ac, 4, none⟩ = some (.slice ax ag.length ay) := (blk_cell aa.out 4).trans rfl; have hcz116_5 : w115.cell? ⟨ac, 5, none⟩ = some (.int .i64 al) := (blk_cell aa.out 5).trans rfl; have hcz116_6 : w115.cell? ⟨ac, 6, none⟩ = some (.slice az ah.length ba) := (blk_cell aa.out 6).trans rfl; have hfz116_0 := blk_frozen aa.out 0; have hfz116_1 := blk_frozen aa.out 1; have hfz116_2 := blk_frozen aa.out 2; have hfz116_3 := blk_frozen aa.out 3; have hfz116_4 := blk_frozen aa.out 4; have hfz116_5 := blk_frozen aa.out 5; have hfz116_6 := blk_frozen aa.out 6) | (go_at_call 12; (with_reducible refine (attr_Compare.calls dm ai aj ak _ _ af _ _ ag al _ _ ah ai aj ak _ _ af _ _ ag al _ _ ah t255 _ ?side1 ?side2 ?side3 ?side4 ?side5 ?side6 ?side7 ?side8 ?side9 ?side10 ?side11 ?side12 du.out).mono ?_); (case side1 | side3 | side5 | side7 | side9 | side11 => repeat (first | exact (Kd.C_below bb.out HB.out) | exact (Kd.C_below bd.out HB.out) | exact (Kd.C_below bf.out HB.out) | (with_reducible refine Kd.C_alloc ?_ _) | (with_reducible refine Kd.C_drewN ?_ _) | (with_reducible refine Kd.C_drew ?_))); (case side2 | side4 | side6 | side8 | side10 | side12 => first | exact bc.out | exact be.out | exact bg.out); rintro e w117 ⟨rfl, hb⟩; replace aa := Aside0.mk (kc707.q aa.out rfl hb); replace ab := Aside0.mk (kc707.q ab.out rfl hb); replace ad := Aside0.mk (kc707.q ad.out rfl hb); replace HB := Aside0.mk (kc707.z HB.out rfl rfl rfl rfl hb); (try clear hb); (try clear df); (try clear hk); (try clear hi)) | (go_at_call 10; (with_reducible refine (whirligiglaw09_lives.calls dm  t259 _ A102.out).mono ?_); rintro e w118 ⟨rfl, hb⟩; replace aa := Aside0.mk (kc707.q aa.out rfl hb); replace ab := Aside0.mk (kc707.q ab.out rfl hb); replace ad := Aside0.mk (kc707.q ad.out rfl hb); replace HB := Aside0.mk (kc707.z HB.out rfl rfl rfl rfl hb); (try clear hb); (try clear df); (try clear hk); (try clear hi)))
             go_ret
             exact ⟨by first | rfl | (simp [errW_none, errW_some] <;> rfl) | (simp [*, errW_none, errW_some] <;> rfl), by repeat (first | (with_reducible first | exact HB.out | apply below_alloc | apply pw_below_drewN | apply below_drew1) | exact HB.out)⟩
            ·rw [if_neg c101] at H
             have c101b0 : decide (t252 < 0) = false := decide_eq_false c101
             clear c101
             obtain rfl := Option.some.inj H
             try go_wp2
             replace aa := Aside0.mk (blk_drew aa.out)
             replace ab := Aside0.mk (blk_drew ab.out)
             replace ad := Aside0.mk (blk_drew ad.out)
             replace HB := Aside0.mk (below_drew1 HB.out)
             refine start_ (n := 12) (S := kc707.S0 ac ae de (.int .i64 ai) (.int .i64 aj) (.int .i64 ak) (.slice av af.length aw) (.slice ax ag.length ay) (.int .i64 al) (.slice az ah.length ba) (.int .i64 ap) (.int .i64 aq) (.int .i64 ar) (.slice bh am.length bi) (.slice bj an.length bk) (.int .i64 au) (.slice bl ao.length bm) (.int .i64 bw) (.int .i64 bx) (.int .i64 bz) (.slice b8 bt.length b9) (.slice da bu.length db) (.int .i64 b0) (.slice dc bv.length dd)) (ds := []) #[false, false, false, false, false, false, false, false, false, false, false, false] (by kernel_rfl) rfl rfl (kc707.b7 aa.out (kc707.b7 ab.out (kc707.b7e ad.out))) (fun hHeld => ?_); refine with_tabW whirligiglaw09_AttrOrder.tab3 whirligiglaw09_AttrOrder.bits3 (fun HT_ HW_ => ?_)
             generalize wc.drew = w119 at aa ab ad HB hHeld ⊢
             refine take_ (i := 0) (N := some 24) (v := ?_) (a' := ?_) #[true, false, false, false, false, false, false, false, false, false, false, false] rfl rfl (take_ofW HT_.out HW_.out (by kernel_rfl)) (fun _ _ _ h => h) (Or.inl ⟨by rfl, ?_⟩) hHeld ?_ ?_
             rotate_left
             ·rintro w' ⟨s0, s1, s2, s3, s4, s5, s6, s7, s8, s9, s10, s11, s12, s13, s14, s15, s16, s17, s18, s19, s20⟩
              go_simp
              with_reducible rfl
             rotate_left
             ·simp only [Act.put, List.setIfInBounds_toArray, List.set_cons_zero, List.set_cons_succ, i64_w, i32_w]
              rfl
             refine take_ (i := 1) (N := some 25) (v := ?_) (a' := ?_) #[true, true, false, false, false, false, false, false, false, false, false, false] rfl rfl (take_ofW HT_.out HW_.out (by kernel_rfl)) (fun _ _ _ h => h) (Or.inl ⟨by rfl, ?_⟩) hHeld ?_ ?_
             rotate_left
             ·rintro w' ⟨s0, s1, s2, s3, s4, s5, s6, s7, s8, s9, s10, s11, s12, s13, s14, s15, s16, s17, s18, s19, s20⟩
              go_simp
              with_reducible rfl
             rotate_left
             ·simp only [Act.put, List.setIfInBounds_toArray, List.set_cons_zero, List.set_cons_succ, i64_w, i32_w]
              rfl
             refine take_ (i := 3) (N := some 27) (v := ?_) (a' := ?_) #[true, true, false, true, false, false, false, false, false, false, false, false] rfl rfl (take_ofW HT_.out HW_.out (by kernel_rfl)) (fun _ _ _ h => h) (Or.inl ⟨by rfl, ?_⟩) hHeld ?_ ?_
             rotate_left
             ·rintro w' ⟨s0, s1, s2, s3, s4, s5, s6, s7, s8, s9, s10, s11, s12, s13, s14, s15, s16, s17, s18, s19, s20⟩
              go_simp
              with_reducible rfl
             rotate_left
             ·simp only [Act.put, List.setIfInBounds_toArray, List.set_cons_zero, List.set_cons_succ, i64_w, i32_w]
              rfl
             refine take_ (i := 4) (N := some 28) (v := ?_) (a' := ?_) #[true, true, false, true, true, false, false, false, false, false, false, false] rfl rfl (take_ofW HT_.out HW_.out (by kernel_rfl)) (fun _ _ _ h => h) (Or.inl ⟨by rfl, ?_⟩) hHeld ?_ ?_
             rotate_left
             ·rintro w' ⟨s0, s1, s2, s3, s4, s5, s6, s7, s8, s9, s10, s11, s12, s13, s14, s15, s16, s17, s18, s19, s20⟩
              go_simp
              with_reducible rfl
             rotate_left
             ·simp only [Act.put, List.setIfInBounds_toArray, List.set_cons_zero, List.set_cons_succ, i64_w, i32_w]
              rfl
             refine take_ (i := 6) (N := some 30) (v := ?_) (a' := ?_) #[true, true, false, true, true, false, true, false, false, false, false, false] rfl rfl (take_ofW HT_.out HW_.out (by kernel_rfl)) (fun _ _ _ h => h) (Or.inl ⟨by rfl, ?_⟩) hHeld ?_ ?_
             rotate_left
             ·rintro w' ⟨s0, s1, s2, s3, s4, s5, s6, s7, s8, s9, s10, s11, s12, s13, s14, s15, s16, s17, s18, s19, s20⟩
              go_simp
              with_reducible rfl
             rotate_left
             ·simp only [Act.put, List.setIfInBounds_toArray, List.set_cons_zero, List.set_cons_succ, i64_w, i32_w]
              rfl
             refine take_ (i := 7) (N := some 31) (v := ?_) (a' := ?_) #[true, true, false, true, true, false, true, true, false, false, false, false] rfl rfl (take_ofW HT_.out HW_.out (by kernel_rfl)) (fun _ _ _ h => h) (Or.inl ⟨by rfl, ?_⟩) hHeld ?_ ?_
             rotate_left
             ·rintro w' ⟨s0, s1, s2, s3, s4, s5, s6, s7, s8, s9, s10, s11, s12, s13, s14, s15, s16, s17, s18, s19, s20⟩
              go_simp
              with_reducible rfl
             rotate_left
             ·simp only [Act.put, List.setIfInBounds_toArray, List.set_cons_zero, List.set_cons_succ, i64_w, i32_w]
              rfl
             refine one_ (i := 2) (N := some 26) #[true, true, true, true, true, false, true, true, false, false, false, false] rfl rfl (one_of HT_.out (by kernel_rfl)) (by decide) (fun K hK => ?_)
             refine goes_ Try.func12 (by kernel_rfl) rfl #[.agg #[.int .i64 ai, .int .i64 aj, .int .i64 ak, .slice av af.length aw, .slice ax ag.length ay, .int .i64 al, .slice az ah.length ba], .agg #[.int .i64 ap, .int .i64 aq, .int .i64 ar, .slice bh am.length bi, .slice bj an.length bk, .int .i64 au, .slice bl ao.length bm]] (by rfl) rfl rfl (by (try simp only [List.map_toArray, List.map_cons, List.map_nil]); first | done | rfl) ?_
             with_reducible refine (attr_Compare.calls dm ai aj ak _ _ af _ _ ag al _ _ ah ap aq ar _ _ am _ _ an au _ _ ao t250 _ ?side1 ?side2 ?side3 ?side4 ?side5 ?side6 ?side7 ?side8 ?side9 ?side10 ?side11 ?side12 dn.out).mono ?_
             (case side1 | side3 | side5 | side7 | side9 | side11 => repeat (first | exact (Kd.C_below bb.out HB.out) | exact (Kd.C_below bd.out HB.out) | exact (Kd.C_below bf.out HB.out) | exact (Kd.C_below bn.out HB.out) | exact (Kd.C_below bp.out HB.out) | exact (Kd.C_below br.out HB.out) | (with_reducible refine Kd.C_alloc ?_ _) | (with_reducible refine Kd.C_drewN ?_ _) | (with_reducible refine Kd.C_drew ?_)))
             (case side2 | side4 | side6 | side8 | side10 | side12 => first | exact bc.out | exact be.out | exact bg.out | exact bo.out | exact bq.out | exact bs.out)
             rintro e w120 ⟨rfl, hb⟩
             refine ⟨_, rfl, ?_⟩
             replace aa := Aside0.mk (kc707.q aa.out rfl hb)
             replace ab := Aside0.mk (kc707.q ab.out rfl hb)
             replace ad := Aside0.mk (kc707.q ad.out rfl hb)
             replace HB := Aside0.mk (kc707.z HB.out rfl rfl rfl rfl hb)
             (try clear hb)
             (try clear df)
             (try clear hk)
             (try clear hi)
             refine hK.out _ _ (kc707.b7 aa.out (kc707.b7 ab.out (kc707.b7e ad.out))) (fun hHeld => ?_)
             clear hK K
             refine norm_ (a' := ?_) ?_ ?_
             rotate_left
             ·show Act.put _ (some 26) _ = _
              simp only [Act.put, List.setIfInBounds_toArray, List.set_cons_zero, List.set_cons_succ, i64_w, i32_w]
              rfl
             refine one_ (i := 5) (N := some 29) #[true, true, true, true, true, true, true, true, false, false, false, false] rfl rfl (one_of HT_.out (by kernel_rfl)) (by decide) (fun K hK => ?_)
             refine goes_ Try.func12 (by kernel_rfl) rfl #[.agg #[.int .i64 ap, .int .i64 aq, .int .i64 ar, .slice bh am.length bi, .slice bj an.length bk, .int .i64 au, .slice bl ao.length bm], .agg #[.int .i64 bw, .int .i64 bx, .int .i64 bz, .slice b8 bt.length b9, .slice da bu.length db, .int .i64 b0, .slice dc bv.length dd]] (by rfl) rfl rfl (by (try simp only [List.map_toArray, List.map_cons, List.map_nil]); first | done | rfl) ?_
             with_reducible refine (attr_Compare.calls dm ap aq ar _ _ am _ _ an au _ _ ao bw bx bz _ _ bt _ _ bu b0 _ _ bv t251 _ ?side1 ?side2 ?side3 ?side4 ?side5 ?side6 ?side7 ?side8 ?side9 ?side10 ?side11 ?side12 dp.out).mono ?_
             (case side1 | side3 | side5 | side7 | side9 | side11 => repeat (first | exact (Kd.C_below bn.out HB.out) | exact (Kd.C_below bp.out HB.out) | exact (Kd.C_below br.out HB.out) | exact (Kd.C_below dg.out HB.out) | exact (Kd.C_below di.out HB.out) | exact (Kd.C_below dk.out HB.out) | (with_reducible refine Kd.C_alloc ?_ _) | (with_reducible refine Kd.C_drewN ?_ _) | (with_reducible refine Kd.C_drew ?_)))
             (case side2 | side4 | side6 | side8 | side10 | side12 => first | exact bo.out | exact bq.out | exact bs.out | exact dh.out | exact dj.out | exact dl.out)
             rintro e w121 ⟨rfl, hb⟩
             refine ⟨_, rfl, ?_⟩
             replace aa := Aside0.mk (kc707.q aa.out rfl hb)
             replace ab := Aside0.mk (kc707.q ab.out rfl hb)
             replace ad := Aside0.mk (kc707.q ad.out rfl hb)
             replace HB := Aside0.mk (kc707.z HB.out rfl rfl rfl rfl hb)
             (try clear hb)
             (try clear df)
             (try clear hk)
             (try clear hi)
             refine hK.out _ _ (kc707.b7 aa.out (kc707.b7 ab.out (kc707.b7e ad.out))) (fun hHeld => ?_)
             clear hK K
             refine norm_ (a' := ?_) ?_ ?_
             rotate_left
             ·show Act.put _ (some 29) _ = _
              simp only [Act.put, List.setIfInBounds_toArray, List.set_cons_zero, List.set_cons_succ, i64_w, i32_w]
              rfl
             refine one_ (i := 8) (N := some 32) #[true, true, true, true, true, true, true, true, true, false, false, false] rfl rfl (one_of HT_.out (by kernel_rfl)) (by decide) (fun K hK => ?_)
             refine goes_ Try.func12 (by kernel_rfl) rfl #[.agg #[.int .i64 ai, .int .i64 aj, .int .i64 ak, .slice av af.length aw, .slice ax ag.length ay, .int .i64 al, .slice az ah.length ba], .agg #[.int .i64 bw, .int .i64 bx, .int .i64 bz, .slice b8 bt.length b9, .slice da bu.length db, .int .i64 b0, .slice dc bv.length dd]] (by rfl) rfl rfl (by (try simp only [List.map_toArray, List.map_cons, List.map_nil]); first | done | rfl) ?_
             with_reducible refine (attr_Compare.calls dm ai aj ak _ _ af _ _ ag al _ _ ah bw bx bz _ _ bt _ _ bu b0 _ _ bv t252 _ ?side1 ?side2 ?side3 ?side4 ?side5 ?side6 ?side7 ?side8 ?side9 ?side10 ?side11 ?side12 dq.out).mono ?_
             (case side1 | side3 | side5 | side7 | side9 | side11 => repeat (first | exact (Kd.C_below bb.out HB.out) | exact (Kd.C_below bd.out HB.out) | exact (Kd.C_below bf.out HB.out) | exact (Kd.C_below dg.out HB.out) | exact (Kd.C_below di.out HB.out) | exact (Kd.C_below dk.out HB.out) | (with_reducible refine Kd.C_alloc ?_ _) | (with_reducible refine Kd.C_drewN ?_ _) | (with_reducible refine Kd.C_drew ?_)))
             (case side2 | side4 | side6 | side8 | side10 | side12 => first | exact bc.out | exact be.out | exact bg.out | exact dh.out | exact dj.out | exact dl.out)
             rintro e w122 ⟨rfl, hb⟩
             refine ⟨_, rfl, ?_⟩
             replace aa := Aside0.mk (kc707.q aa.out rfl hb)
             replace ab := Aside0.mk (kc707.q ab.out rfl hb)
             replace ad := Aside0.mk (kc707.q ad.out rfl hb)
             replace HB := Aside0.mk (kc707.z HB.out rfl rfl rfl rfl hb)
             (try clear hb)
             (try clear df)
             (try clear hk)
             (try clear hi)
             refine hK.out _ _ (kc707.b7 aa.out (kc707.b7 ab.out (kc707.b7e ad.out))) (fun hHeld => ?_)
             clear hK K
             refine norm_ (a' := ?_) ?_ ?_
             rotate_left
             ·show Act.put _ (some 32) _ = _
              simp only [Act.put, List.setIfInBounds_toArray, List.set_cons_zero, List.set_cons_succ, i64_w, i32_w]
              rfl
             refine pure_ (i := 9) (N := some 7) (v := ?_) (a' := ?_) #[true, true, true, true, true, true, true, true, true, true, false, false] rfl rfl (any_of HT_.out (by kernel_rfl)) (fun _ _ _ h => h) (Or.inl ⟨by rfl, ?_⟩) ?_ ?_
             rotate_left
             ·intro w'
              go_simp
              with_reducible rfl
             rotate_left
             ·simp only [Act.put, List.setIfInBounds_toArray, List.set_cons_zero, List.set_cons_succ, i64_w, i32_w]
              rfl
             refine pure_ (i := 10) (N := some 8) (v := ?_) (a' := ?_) #[true, true, true, true, true, true, true, true, true, true, true, false] rfl rfl (any_of HT_.out (by kernel_rfl)) (fun _ _ _ h => h) (Or.inl ⟨by rfl, ?_⟩) ?_ ?_
             rotate_left
             ·intro w'
              go_simp
              with_reducible rfl
             rotate_left
             ·simp only [Act.put, List.setIfInBounds_toArray, List.set_cons_zero, List.set_cons_succ, i64_w, i32_w]
              rfl
             refine pure_ (i := 11) (N := some 9) (v := ?_) (a' := ?_) #[true, true, true, true, true, true, true, true, true, true, true, true] rfl rfl (any_of HT_.out (by kernel_rfl)) (fun _ _ _ h => h) (Or.inl ⟨by rfl, ?_⟩) ?_ ?_
             rotate_left
             ·intro w'
              go_simp
              with_reducible rfl
             rotate_left
             ·simp only [Act.put, List.setIfInBounds_toArray, List.set_cons_zero, List.set_cons_succ, i64_w, i32_w]
              rfl
             refine done_ (done_of HT_.out (by kernel_rfl)) ?_
             have hnb123 := b1.out
             have hnc123 := b2.out
             have hnb124 := b3.out
             have hnc124 := b4.out
             have hcz125_0 : w122.cell? ⟨ac, 0, none⟩ = some (.int .i64 ai) := (blk_cell aa.out 0).trans rfl
             have hcz125_1 : w122.cell? ⟨ac, 1, none⟩ = some (.int .i64 aj) := (blk_cell aa.out 1).trans rfl
             have hcz125_2 : w122.cell? ⟨ac, 2, none⟩ = some (.int .i64 ak) := (blk_cell aa.out 2).trans rfl
             have hcz125_3 : w122.cell? ⟨ac, 3, none⟩ = some (.slice av af.length aw) := (blk_cell aa.out 3).trans rfl
             have hcz125_4 : w122.cell? ⟨ac, 4, none⟩ = some (.slice ax ag.length ay) := (blk_cell aa.out 4).trans rfl
             have hcz125_5 : w122.cell? ⟨ac, 5, none⟩ = some (.int .i64 al) := (blk_cell aa.out 5).trans rfl
             have hcz125_6 : w122.cell? ⟨ac, 6, none⟩ = some (.slice az ah.length ba) := (blk_cell aa.out 6).trans rfl
             have hfz125_0 := blk_frozen aa.out 0
             have hfz125_1 := blk_frozen aa.out 1
             have hfz125_2 := blk_frozen aa.out 2
             have hfz125_3 := blk_frozen aa.out 3
             have hfz125_4 := blk_frozen aa.out 4
             have hfz125_5 := blk_frozen aa.out 5
             have hfz125_6 := blk_frozen aa.out 6
             have hnb126 := b5.out
             have hnc126 := b6.out
             have hcz127_0 : w122.cell? ⟨ae, 0, none⟩ = some (.int .i64 ap) := (blk_cell ab.out 0).trans rfl
             have hcz127_1 : w122.cell? ⟨ae, 1, none⟩ = some (.int .i64 aq) := (blk_cell ab.out 1).trans rfl
             have hcz127_2 : w122.cell? ⟨ae, 2, none⟩ = some (.int .i64 ar) := (blk_cell ab.out 2).trans rfl
             have hcz127_3 : w122.cell? ⟨ae, 3, none⟩ = some (.slice bh am.length bi) := (blk_cell ab.out 3).trans rfl
             have hcz127_4 : w122.cell? ⟨ae, 4, none⟩ = some (.slice bj an.length bk) := (blk_cell ab.out 4).trans rfl
             have hcz127_5 : w122.cell? ⟨ae, 5, none⟩ = some (.int .i64 au) := (blk_cell ab.out 5).trans rfl
             have hcz127_6 : w122.cell? ⟨ae, 6, none⟩ = some (.slice bl ao.length bm) := (blk_cell ab.out 6).trans rfl
             have hfz127_0 := blk_frozen ab.out 0
             have hfz127_1 := blk_frozen ab.out 1
             have hfz127_2 := blk_frozen ab.out 2
             have hfz127_3 := blk_frozen ab.out 3
             have hfz127_4 := blk_frozen ab.out 4
             have hfz127_5 := blk_frozen ab.out 5
             have hfz127_6 := blk_frozen ab.out 6
             try go_wp2_with (first | ((with_reducible refine gate_callee (f := 13) rfl ?_); refine goesL_ (some 36) rfl rfl Try.func13 (by kernel_rfl) rfl #[.agg #[.int .i64 ai, .int .i64 aj, .int .i64 ak, .slice av af.length aw, .slice ax ag.length ay, .int .i64 al, .slice az ah.length ba], .agg #[.int .i64 ap, .int .i64 aq, .int .i64 ar, .slice bh am.length bi, .slice bj an.length bk, .int .i64 au, .slice bl ao.length bm]] rfl (by (try simp only [List.map_toArray, List.map_cons, List.map_nil]); first | done | rfl) ?_; (with_reducible refine (whirligigref09_Compare.calls dm ai aj ak _ _ af _ _ ag al _ _ ah ap aq ar _ _ am _ _ an au _ _ ao t253 _ ?side1 ?side2 ?side3 ?side4 ?side5 ?side6 ?side7 ?side8 ?side9 ?side10 ?side11 ?side12 dr.out).mono ?_); (case side1 | side3 | side5 | side7 | side9 | side11 => repeat (first | exact (Kd.C_below bb.out HB.out) | exact (Kd.C_below bd.out HB.out) | exact (Kd.C_below bf.out HB.out) | exact (Kd.C_below bn.out HB.out) | exact (Kd.C_below bp.out HB.out) | exact (Kd.C_below br.out HB.out) | (with_reducible refine Kd.C_alloc ?_ _) | (with_reducible refine Kd.C_drewN ?_ _) | (with_reducible refine Kd.C_drew ?_))); (case side2 | side4 | side6 | side8 | side10 | side12 => first | exact bc.out | exact be.out | exact bg.out | exact bo.out | exact bq.out | exact bs.out); rintro e w128 ⟨rfl, hb⟩; refine ⟨_, rfl, ?_⟩; replace aa := Aside0.mk (kc707.q aa.out rfl hb); replace ab := Aside0.mk (kc707.q ab.out rfl hb); replace ad := Aside0.mk (kc707.q ad.out rfl hb); replace HB := Aside0.mk (kc707.z HB.out rfl rfl rfl rfl hb); (try clear hb); (try clear df); (try clear hk); (try clear hi); have hcz129_0 : w128.cell? ⟨ae, 0, none⟩ = some (.int .i64 ap) := (blk_cell ab.out 0).trans rfl; have hcz129_1 : w128.cell? ⟨ae, 1, none⟩ = some (.int .i64 aq) := (blk_cell ab.out 1).trans rfl; have hcz129_2 : w128.cell? ⟨ae, 2, none⟩ = some (.int .i64 ar) := (blk_cell ab.out 2).trans rfl; have hcz129_3 : w128.cell? ⟨ae, 3, none⟩ = some (.slice bh am.length bi) := (blk_cell ab.out 3).trans rfl; have hcz129_4 : w128.cell? ⟨ae, 4, none⟩ = some (.slice bj an.length bk) := (blk_cell ab.out 4).trans rfl; have hcz129_5 : w128.cell? ⟨ae, 5, none⟩ = some (.int .i64 au) := (blk_cell ab.out 5).trans rfl; have hcz129_6 : w128.cell? ⟨ae, 6, none⟩ = some (.slice bl ao.length bm) := (blk_cell ab.out 6).trans rfl; have hfz129_0 := blk_frozen ab.out 0; have hfz129_1 := blk_frozen ab.out 1; have hfz129_2 := blk_frozen ab.out 2; have hfz129_3 := blk_frozen ab.out 3; have hfz129_4 := blk_frozen ab.out 4; have hfz129_5 := blk_frozen ab.out 5; have hfz129_6 := blk_frozen ab.out 6; have hcz130_0 : w128.cell? ⟨ac, 0, none⟩ = some (.int .i64 ai) := (blk_cell aa.out 0).trans rfl; have hcz130_1 : w128.cell? ⟨ac, 1, none⟩ = some (.int .i64 aj) := (blk_cell aa.out 1).trans rfl; have hcz130_2 : w128.cell? ⟨ac, 2, none⟩ = some (.int .i64 ak) := (blk_cell aa.out 2).trans rfl; have hcz130_3 : w128.cell? ⟨ac, 3, none⟩ = some (.slice av af.length aw) := (blk_cell aa.out 3).trans rfl; have hcz130_4 : w128.cell? ⟨ac, 4, none⟩ = some (.slice ax ag.length ay) := (blk_cell aa.out 4).trans rfl; have hcz130_5 : w128.cell? ⟨ac, 5, none⟩ = some (.int .i64 al) := (blk_cell aa.out 5).trans rfl; have hcz130_6 : w128.cell? ⟨ac, 6, none⟩ = some (.slice az ah.length ba) := (blk_cell aa.out 6).trans rfl; have hfz130_0 := blk_frozen aa.out 0; have hfz130_1 := blk_frozen aa.out 1; have hfz130_2 := blk_frozen aa.out 2; have hfz130_3 := blk_frozen aa.out 3; have hfz130_4 := blk_frozen aa.out 4; have hfz130_5 := blk_frozen aa.out 5; have hfz130_6 := blk_frozen aa.out 6) | (go_at_call 12; (with_reducible refine (attr_Compare.calls dm ap aq ar _ _ am _ _ an au _ _ ao ai aj ak _ _ af _ _ ag al _ _ ah t254 _ ?side1 ?side2 ?side3 ?side4 ?side5 ?side6 ?side7 ?side8 ?side9 ?side10 ?side11 ?side12 dt.out).mono ?_); (case side1 | side3 | side5 | side7 | side9 | side11 => repeat (first | exact (Kd.C_below bn.out HB.out) | exact (Kd.C_below bp.out HB.out) | exact (Kd.C_below br.out HB.out) | exact (Kd.C_below bb.out HB.out) | exact (Kd.C_below bd.out HB.out) | exact (Kd.C_below bf.out HB.out) | (with_reducible refine Kd.C_alloc ?_ _) | (with_reducible refine Kd.C_drewN ?_ _) | (with_reducible refine Kd.C_drew ?_))); (case side2 | side4 | side6 | side8 | side10 | side12 => first | exact bo.out | exact bq.out | exact bs.out | exact bc.out | exact be.out | exact bg.out); rintro e w131 ⟨rfl, hb⟩; replace aa := Aside0.mk (kc707.q aa.out rfl hb); replace ab := Aside0.mk (kc707.q ab.out rfl hb); replace ad := Aside0.mk (kc707.q ad.out rfl hb); replace HB := Aside0.mk (kc707.z HB.out rfl rfl rfl rfl hb); (try clear hb); (try clear df); (try clear hk); (try clear hi); have hcz132_0 : w131.cell? ⟨ac, 0, none⟩ = some (.int .i64 ai) := (blk_cell aa.out 0).trans rfl; have hcz132_1 : w131.cell? ⟨ac, 1, none⟩ = some (.int .i64 aj) := (blk_cell aa.out 1).trans rfl; have hcz132_2 : w131.cell? ⟨ac, 2, none⟩ = some (.int .i64 ak) := (blk_cell aa.out 2).trans rfl; have hcz132_3 : w131.cell? ⟨ac, 3, none⟩ = some (.slice av af.length aw) := (blk_cell aa.out 3).trans rfl; have hcz132_4 : w131.cell? ⟨ac, 4, none⟩ = some (.slice ax ag.length ay) := (blk_cell aa.out 4).trans rfl; have hcz132_5 : w131.cell? ⟨ac, 5, none⟩ = some (.int .i64 al) := (blk_cell aa.out 5).trans rfl; have hcz132_6 : w131.cell? ⟨ac, 6, none⟩ = some (.slice az ah.length ba) := (blk_cell aa.out 6).trans rfl; have hfz132_0 := blk_frozen aa.out 0; have hfz132_1 := blk_frozen aa.out 1; have hfz132_2 := blk_frozen aa.out 2; have hfz132_3 := blk_frozen aa.out 3; have hfz132_4 := blk_frozen aa.out 4; have hfz132_5 := blk_frozen aa.out 5; have hfz132_6 := blk_frozen aa.out 6) | (go_at_call 12; (with_reducible refine (attr_Compare.calls dm ai aj ak _ _ af _ _ ag al _ _ ah ai aj ak _ _ af _ _ ag al _ _ ah t255 _ ?side1 ?side2 ?side3 ?side4 ?side5 ?side6 ?side7 ?side8 ?side9 ?side10 ?side11 ?side12 du.out).mono ?_); (case side1 | side3 | side5 | side7 | side9 | side11 => repeat (first | exact (Kd.C_below bb.out HB.out) | exact (Kd.C_below bd.out HB.out) | exact (Kd.C_below bf.out HB.out) | (with_reducible refine Kd.C_alloc ?_ _) | (with_reducible refine Kd.C_drewN ?_ _) | (with_reducible refine Kd.C_drew ?_))); (case side2 | side4 | side6 | side8 | side10 | side12 => first | exact bc.out | exact be.out | exact bg.out); rintro e w133 ⟨rfl, hb⟩; replace aa := Aside0.mk (kc707.q aa.out rfl hb); replace ab := Aside0.mk (kc707.q ab.out rfl hb); replace ad := Aside0.mk (kc707.q ad.out rfl hb); replace HB := Aside0.mk (kc707.z HB.out rfl rfl rfl rfl hb); (try clear hb); (try clear df); (try clear hk); (try clear hi)))
             go_ret
             exact ⟨by first | rfl | (simp [errW_none, errW_some] <;> rfl) | (simp [*, errW_none, errW_some] <;> rfl), by repeat (first | (with_reducible first | exact HB.out | apply below_alloc | apply pw_below_drewN | apply below_drew1) | exact HB.out)⟩
          ·rw [if_neg c82] at H
           have c82b0 : (t250 == 0) = false := beq_eq_false_iff_ne.mpr c82
           have c82b1 : (t250 != 0) = true := bne_iff_ne.mpr c82
           by_cases c134 : t252 < 0
           ·rw [if_pos c134] at H
            have c134b0 : decide (t252 < 0) = true := decide_eq_true c134
            clear c134
            replace H := Option.bind_eq_some_iff.mp H
            obtain ⟨t260, A1350, H⟩ := H
            replace H : (some t260) = some r := H
            have A135 := Aside0.mk A1350
            clear A1350
            obtain rfl := Option.some.inj H
            try go_wp2
            replace aa := Aside0.mk (blk_drew aa.out)
            replace ab := Aside0.mk (blk_drew ab.out)
            replace ad := Aside0.mk (blk_drew ad.out)
            replace HB := Aside0.mk (below_drew1 HB.out)
            refine start_ (n := 12) (S := kc707.S0 ac ae de (.int .i64 ai) (.int .i64 aj) (.int .i64 ak) (.slice av af.length aw) (.slice ax ag.length ay) (.int .i64 al) (.slice az ah.length ba) (.int .i64 ap) (.int .i64 aq) (.int .i64 ar) (.slice bh am.length bi) (.slice bj an.length bk) (.int .i64 au) (.slice bl ao.length bm) (.int .i64 bw) (.int .i64 bx) (.int .i64 bz) (.slice b8 bt.length b9) (.slice da bu.length db) (.int .i64 b0) (.slice dc bv.length dd)) (ds := []) #[false, false, false, false, false, false, false, false, false, false, false, false] (by kernel_rfl) rfl rfl (kc707.b7 aa.out (kc707.b7 ab.out (kc707.b7e ad.out))) (fun hHeld => ?_); refine with_tabW whirligiglaw09_AttrOrder.tab3 whirligiglaw09_AttrOrder.bits3 (fun HT_ HW_ => ?_)
            generalize wc.drew = w136 at aa ab ad HB hHeld ⊢
            refine take_ (i := 0) (N := some 24) (v := ?_) (a' := ?_) #[true, false, false, false, false, false, false, false, false, false, false, false] rfl rfl (take_ofW HT_.out HW_.out (by kernel_rfl)) (fun _ _ _ h => h) (Or.inl ⟨by rfl, ?_⟩) hHeld ?_ ?_
            rotate_left
            ·rintro w' ⟨s0, s1, s2, s3, s4, s5, s6, s7, s8, s9, s10, s11, s12, s13, s14, s15, s16, s17, s18, s19, s20⟩
             go_simp
             with_reducible rfl
            rotate_left
            ·simp only [Act.put, List.setIfInBounds_toArray, List.set_cons_zero, List.set_cons_succ, i64_w, i32_w]
             rfl
            refine take_ (i := 1) (N := some 25) (v := ?_) (a' := ?_) #[true, true, false, false, false, false, false, false, false, false, false, false] rfl rfl (take_ofW HT_.out HW_.out (by kernel_rfl)) (fun _ _ _ h => h) (Or.inl ⟨by rfl, ?_⟩) hHeld ?_ ?_
            rotate_left
            ·rintro w' ⟨s0, s1, s2, s3, s4, s5, s6, s7, s8, s9, s10, s11, s12, s13, s14, s15, s16, s17, s18, s19, s20⟩
             go_simp
             with_reducible rfl
            rotate_left
            ·simp only [Act.put, List.setIfInBounds_toArray, List.set_cons_zero, List.set_cons_succ, i64_w, i32_w]
             rfl
            refine take_ (i := 3) (N := some 27) (v := ?_) (a' := ?_) #[true, true, false, true, false, false, false, false, false, false, false, false] rfl rfl (take_ofW HT_.out HW_.out (by kernel_rfl)) (fun _ _ _ h => h) (Or.inl ⟨by rfl, ?_⟩) hHeld ?_ ?_
            rotate_left
            ·rintro w' ⟨s0, s1, s2, s3, s4, s5, s6, s7, s8, s9, s10, s11, s12, s13, s14, s15, s16, s17, s18, s19, s20⟩
             go_simp
             with_reducible rfl
            rotate_left
            ·simp only [Act.put, List.setIfInBounds_toArray, List.set_cons_zero, List.set_cons_succ, i64_w, i32_w]
             rfl
            refine take_ (i := 4) (N := some 28) (v := ?_) (a' := ?_) #[true, true, false, true, true, false, false, false, false, false, false, false] rfl rfl (take_ofW HT_.out HW_.out (by kernel_rfl)) (fun _ _ _ h => h) (Or.inl ⟨by rfl, ?_⟩) hHeld ?_ ?_
            rotate_left
            ·rintro w' ⟨s0, s1, s2, s3, s4, s5, s6, s7, s8, s9, s10, s11, s12, s13, s14, s15, s16, s17, s18, s19, s20⟩
             go_simp
             with_reducible rfl
            rotate_left
            ·simp only [Act.put, List.setIfInBounds_toArray, List.set_cons_zero, List.set_cons_succ, i64_w, i32_w]
             rfl
            refine take_ (i := 6) (N := some 30) (v := ?_) (a' := ?_) #[true, true, false, true, true, false, true, false, false, false, false, false] rfl rfl (take_ofW HT_.out HW_.out (by kernel_rfl)) (fun _ _ _ h => h) (Or.inl ⟨by rfl, ?_⟩) hHeld ?_ ?_
            rotate_left
            ·rintro w' ⟨s0, s1, s2, s3, s4, s5, s6, s7, s8, s9, s10, s11, s12, s13, s14, s15, s16, s17, s18, s19, s20⟩
             go_simp
             with_reducible rfl
            rotate_left
            ·simp only [Act.put, List.setIfInBounds_toArray, List.set_cons_zero, List.set_cons_succ, i64_w, i32_w]
             rfl
            refine take_ (i := 7) (N := some 31) (v := ?_) (a' := ?_) #[true, true, false, true, true, false, true, true, false, false, false, false] rfl rfl (take_ofW HT_.out HW_.out (by kernel_rfl)) (fun _ _ _ h => h) (Or.inl ⟨by rfl, ?_⟩) hHeld ?_ ?_
            rotate_left
            ·rintro w' ⟨s0, s1, s2, s3, s4, s5, s6, s7, s8, s9, s10, s11, s12, s13, s14, s15, s16, s17, s18, s19, s20⟩
             go_simp
             with_reducible rfl
            rotate_left
            ·simp only [Act.put, List.setIfInBounds_toArray, List.set_cons_zero, List.set_cons_succ, i64_w, i32_w]
             rfl
            refine one_ (i := 2) (N := some 26) #[true, true, true, true, true, false, true, true, false, false, false, false] rfl rfl (one_of HT_.out (by kernel_rfl)) (by decide) (fun K hK => ?_)
            refine goes_ Try.func12 (by kernel_rfl) rfl #[.agg #[.int .i64 ai, .int .i64 aj, .int .i64 ak, .slice av af.length aw, .slice ax ag.length ay, .int .i64 al, .slice az ah.length ba], .agg #[.int .i64 ap, .int .i64 aq, .int .i64 ar, .slice bh am.length bi, .slice bj an.length bk, .int .i64 au, .slice bl ao.length bm]] (by rfl) rfl rfl (by (try simp only [List.map_toArray, List.map_cons, List.map_nil]); first | done | rfl) ?_
            with_reducible refine (attr_Compare.calls dm ai aj ak _ _ af _ _ ag al _ _ ah ap aq ar _ _ am _ _ an au _ _ ao t250 _ ?side1 ?side2 ?side3 ?side4 ?side5 ?side6 ?side7 ?side8 ?side9 ?side10 ?side11 ?side12 dn.out).mono ?_
            (case side1 | side3 | side5 | side7 | side9 | side11 => repeat (first | exact (Kd.C_below bb.out HB.out) | exact (Kd.C_below bd.out HB.out) | exact (Kd.C_below bf.out HB.out) | exact (Kd.C_below bn.out HB.out) | exact (Kd.C_below bp.out HB.out) | exact (Kd.C_below br.out HB.out) | (with_reducible refine Kd.C_alloc ?_ _) | (with_reducible refine Kd.C_drewN ?_ _) | (with_reducible refine Kd.C_drew ?_)))
            (case side2 | side4 | side6 | side8 | side10 | side12 => first | exact bc.out | exact be.out | exact bg.out | exact bo.out | exact bq.out | exact bs.out)
            rintro e w137 ⟨rfl, hb⟩
            refine ⟨_, rfl, ?_⟩
            replace aa := Aside0.mk (kc707.q aa.out rfl hb)
            replace ab := Aside0.mk (kc707.q ab.out rfl hb)
            replace ad := Aside0.mk (kc707.q ad.out rfl hb)
            replace HB := Aside0.mk (kc707.z HB.out rfl rfl rfl rfl hb)
            (try clear hb)
            (try clear df)
            (try clear hk)
            (try clear hi)
            refine hK.out _ _ (kc707.b7 aa.out (kc707.b7 ab.out (kc707.b7e ad.out))) (fun hHeld => ?_)
            clear hK K
            refine norm_ (a' := ?_) ?_ ?_
            rotate_left
            ·show Act.put _ (some 26) _ = _
             simp only [Act.put, List.setIfInBounds_toArray, List.set_cons_zero, List.set_cons_succ, i64_w, i32_w]
             rfl
            refine one_ (i := 5) (N := some 29) #[true, true, true, true, true, true, true, true, false, false, false, false] rfl rfl (one_of HT_.out (by kernel_rfl)) (by decide) (fun K hK => ?_)
            refine goes_ Try.func12 (by kernel_rfl) rfl #[.agg #[.int .i64 ap, .int .i64 aq, .int .i64 ar, .slice bh am.length bi, .slice bj an.length bk, .int .i64 au, .slice bl ao.length bm], .agg #[.int .i64 bw, .int .i64 bx, .int .i64 bz, .slice b8 bt.length b9, .slice da bu.length db, .int .i64 b0, .slice dc bv.length dd]] (by rfl) rfl rfl (by (try simp only [List.map_toArray, List.map_cons, List.map_nil]); first | done | rfl) ?_
            with_reducible refine (attr_Compare.calls dm ap aq ar _ _ am _ _ an au _ _ ao bw bx bz _ _ bt _ _ bu b0 _ _ bv t251 _ ?side1 ?side2 ?side3 ?side4 ?side5 ?side6 ?side7 ?side8 ?side9 ?side10 ?side11 ?side12 dp.out).mono ?_
            (case side1 | side3 | side5 | side7 | side9 | side11 => repeat (first | exact (Kd.C_below bn.out HB.out) | exact (Kd.C_below bp.out HB.out) | exact (Kd.C_below br.out HB.out) | exact (Kd.C_below dg.out HB.out) | exact (Kd.C_below di.out HB.out) | exact (Kd.C_below dk.out HB.out) | (with_reducible refine Kd.C_alloc ?_ _) | (with_reducible refine Kd.C_drewN ?_ _) | (with_reducible refine Kd.C_drew ?_)))
            (case side2 | side4 | side6 | side8 | side10 | side12 => first | exact bo.out | exact bq.out | exact bs.out | exact dh.out | exact dj.out | exact dl.out)
            rintro e w138 ⟨rfl, hb⟩
            refine ⟨_, rfl, ?_⟩
            replace aa := Aside0.mk (kc707.q aa.out rfl hb)
            replace ab := Aside0.mk (kc707.q ab.out rfl hb)
            replace ad := Aside0.mk (kc707.q ad.out rfl hb)
            replace HB := Aside0.mk (kc707.z HB.out rfl rfl rfl rfl hb)
            (try clear hb)
            (try clear df)
            (try clear hk)
            (try clear hi)
            refine hK.out _ _ (kc707.b7 aa.out (kc707.b7 ab.out (kc707.b7e ad.out))) (fun hHeld => ?_)
            clear hK K
            refine norm_ (a' := ?_) ?_ ?_
            rotate_left
            ·show Act.put _ (some 29) _ = _
             simp only [Act.put, List.setIfInBounds_toArray, List.set_cons_zero, List.set_cons_succ, i64_w, i32_w]
             rfl
            refine one_ (i := 8) (N := some 32) #[true, true, true, true, true, true, true, true, true, false, false, false] rfl rfl (one_of HT_.out (by kernel_rfl)) (by decide) (fun K hK => ?_)
            refine goes_ Try.func12 (by kernel_rfl) rfl #[.agg #[.int .i64 ai, .int .i64 aj, .int .i64 ak, .slice av af.length aw, .slice ax ag.length ay, .int .i64 al, .slice az ah.length ba], .agg #[.int .i64 bw, .int .i64 bx, .int .i64 bz, .slice b8 bt.length b9, .slice da bu.length db, .int .i64 b0, .slice dc bv.length dd]] (by rfl) rfl rfl (by (try simp only [List.map_toArray, List.map_cons, List.map_nil]); first | done | rfl) ?_
            with_reducible refine (attr_Compare.calls dm ai aj ak _ _ af _ _ ag al _ _ ah bw bx bz _ _ bt _ _ bu b0 _ _ bv t252 _ ?side1 ?side2 ?side3 ?side4 ?side5 ?side6 ?side7 ?side8 ?side9 ?side10 ?side11 ?side12 dq.out).mono ?_
            (case side1 | side3 | side5 | side7 | side9 | side11 => repeat (first | exact (Kd.C_below bb.out HB.out) | exact (Kd.C_below bd.out HB.out) | exact (Kd.C_below bf.out HB.out) | exact (Kd.C_below dg.out HB.out) | exact (Kd.C_below di.out HB.out) | exact (Kd.C_below dk.out HB.out) | (with_reducible refine Kd.C_alloc ?_ _) | (with_reducible refine Kd.C_drewN ?_ _) | (with_reducible refine Kd.C_drew ?_)))
            (case side2 | side4 | side6 | side8 | side10 | side12 => first | exact bc.out | exact be.out | exact bg.out | exact dh.out | exact dj.out | exact dl.out)
            rintro e w139 ⟨rfl, hb⟩
            refine ⟨_, rfl, ?_⟩
            replace aa := Aside0.mk (kc707.q aa.out rfl hb)
            replace ab := Aside0.mk (kc707.q ab.out rfl hb)
            replace ad := Aside0.mk (kc707.q ad.out rfl hb)
            replace HB := Aside0.mk (kc707.z HB.out rfl rfl rfl rfl hb)
            (try clear hb)
            (try clear df)
            (try clear hk)
            (try clear hi)
            refine hK.out _ _ (kc707.b7 aa.out (kc707.b7 ab.out (kc707.b7e ad.out))) (fun hHeld => ?_)
            clear hK K
            refine norm_ (a' := ?_) ?_ ?_
            rotate_left
            ·show Act.put _ (some 32) _ = _
             simp only [Act.put, List.setIfInBounds_toArray, List.set_cons_zero, List.set_cons_succ, i64_w, i32_w]
             rfl
            refine pure_ (i := 9) (N := some 7) (v := ?_) (a' := ?_) #[true, true, true, true, true, true, true, true, true, true, false, false] rfl rfl (any_of HT_.out (by kernel_rfl)) (fun _ _ _ h => h) (Or.inl ⟨by rfl, ?_⟩) ?_ ?_
            rotate_left
            ·intro w'
             go_simp
             with_reducible rfl
            rotate_left
            ·simp only [Act.put, List.setIfInBounds_toArray, List.set_cons_zero, List.set_cons_succ, i64_w, i32_w]
             rfl
            refine pure_ (i := 10) (N := some 8) (v := ?_) (a' := ?_) #[true, true, true, true, true, true, true, true, true, true, true, false] rfl rfl (any_of HT_.out (by kernel_rfl)) (fun _ _ _ h => h) (Or.inl ⟨by rfl, ?_⟩) ?_ ?_
            rotate_left
            ·intro w'
             go_simp
             with_reducible rfl
            rotate_left
            ·simp only [Act.put, List.setIfInBounds_toArray, List.set_cons_zero, List.set_cons_succ, i64_w, i32_w]
             rfl
            refine pure_ (i := 11) (N := some 9) (v := ?_) (a' := ?_) #[true, true, true, true, true, true, true, true, true, true, true, true] rfl rfl (any_of HT_.out (by kernel_rfl)) (fun _ _ _ h => h) (Or.inl ⟨by rfl, ?_⟩) ?_ ?_
            rotate_left
            ·intro w'
             go_simp
             with_reducible rfl
            rotate_left
            ·simp only [Act.put, List.setIfInBounds_toArray, List.set_cons_zero, List.set_cons_succ, i64_w, i32_w]
             rfl
            refine done_ (done_of HT_.out (by kernel_rfl)) ?_
            have hnb140 := b1.out
            have hnc140 := b2.out
            have hnb141 := b3.out
            have hnc141 := b4.out
            have hcz142_0 : w139.cell? ⟨ac, 0, none⟩ = some (.int .i64 ai) := (blk_cell aa.out 0).trans rfl
            have hcz142_1 : w139.cell? ⟨ac, 1, none⟩ = some (.int .i64 aj) := (blk_cell aa.out 1).trans rfl
            have hcz142_2 : w139.cell? ⟨ac, 2, none⟩ = some (.int .i64 ak) := (blk_cell aa.out 2).trans rfl
            have hcz142_3 : w139.cell? ⟨ac, 3, none⟩ = some (.slice av af.length aw) := (blk_cell aa.out 3).trans rfl
            have hcz142_4 : w139.cell? ⟨ac, 4, none⟩ = some (.slice ax ag.length ay) := (blk_cell aa.out 4).trans rfl
            have hcz142_5 : w139.cell? ⟨ac, 5, none⟩ = some (.int .i64 al) := (blk_cell aa.out 5).trans rfl
            have hcz142_6 : w139.cell? ⟨ac, 6, none⟩ = some (.slice az ah.length ba) := (blk_cell aa.out 6).trans rfl
            have hfz142_0 := blk_frozen aa.out 0
            have hfz142_1 := blk_frozen aa.out 1
            have hfz142_2 := blk_frozen aa.out 2
            have hfz142_3 := blk_frozen aa.out 3
            have hfz142_4 := blk_frozen aa.out 4
            have hfz142_5 := blk_frozen aa.out 5
            have hfz142_6 := blk_frozen aa.out 6
            have hnb143 := b5.out
            have hnc143 := b6.out
            have hcz144_0 : w139.cell? ⟨ae, 0, none⟩ = some (.int .i64 ap) := (blk_cell ab.out 0).trans rfl
            have hcz144_1 : w139.cell? ⟨ae, 1, none⟩ = some (.int .i64 aq) := (blk_cell ab.out 1).trans rfl
            have hcz144_2 : w139.cell? ⟨ae, 2, none⟩ = some (.int .i64 ar) := (blk_cell ab.out 2).trans rfl
            have hcz144_3 : w139.cell? ⟨ae, 3, none⟩ = some (.slice bh am.length bi) := (blk_cell ab.out 3).trans rfl
            have hcz144_4 : w139.cell? ⟨ae, 4, none⟩ = some (.slice bj an.length bk) := (blk_cell ab.out 4).trans rfl
            have hcz144_5 : w139.cell? ⟨ae, 5, none⟩ = some (.int .i64 au) := (blk_cell ab.out 5).trans rfl
            have hcz144_6 : w139.cell? ⟨ae, 6, none⟩ = some (.slice bl ao.length bm) := (blk_cell ab.out 6).trans rfl
            have hfz144_0 := blk_frozen ab.out 0
            have hfz144_1 := blk_frozen ab.out 1
            have hfz144_2 := blk_frozen ab.out 2
            have hfz144_3 := blk_frozen ab.out 3
            have hfz144_4 := blk_frozen ab.out 4
            have hfz144_5 := blk_frozen ab.out 5
            have hfz144_6 := blk_frozen ab.out 6
            try go_wp2_with (first | ((with_reducible refine gate_callee (f := 13) rfl ?_); refine goesL_ (some 36) rfl rfl Try.func13 (by kernel_rfl) rfl #[.agg #[.int .i64 ai, .int .i64 aj, .int .i64 ak, .slice av af.length aw, .slice ax ag.length ay, .int .i64 al, .slice az ah.length ba], .agg #[.int .i64 ap, .int .i64 aq, .int .i64 ar, .slice bh am.length bi, .slice bj an.length bk, .int .i64 au, .slice bl ao.length bm]] rfl (by (try simp only [List.map_toArray, List.map_cons, List.map_nil]); first | done | rfl) ?_; (with_reducible refine (whirligigref09_Compare.calls dm ai aj ak _ _ af _ _ ag al _ _ ah ap aq ar _ _ am _ _ an au _ _ ao t253 _ ?side1 ?side2 ?side3 ?side4 ?side5 ?side6 ?side7 ?side8 ?side9 ?side10 ?side11 ?side12 dr.out).mono ?_); (case side1 | side3 | side5 | side7 | side9 | side11 => repeat (first | exact (Kd.C_below bb.out HB.out) | exact (Kd.C_below bd.out HB.out) | exact (Kd.C_below bf.out HB.out) | exact (Kd.C_below bn.out HB.out) | exact (Kd.C_below bp.out HB.out) | exact (Kd.C_below br.out HB.out) | (with_reducible refine Kd.C_alloc ?_ _) | (with_reducible refine Kd.C_drewN ?_ _) | (with_reducible refine Kd.C_drew ?_))); (case side2 | side4 | side6 | side8 | side10 | side12 => first | exact bc.out | exact be.out | exact bg.out | exact bo.out | exact bq.out | exact bs.out); rintro e w145 ⟨rfl, hb⟩; refine ⟨_, rfl, ?_⟩; replace aa := Aside0.mk (kc707.q aa.out rfl hb); replace ab := Aside0.mk (kc707.q ab.out rfl hb); replace ad := Aside0.mk (kc707.q ad.out rfl hb); replace HB := Aside0.mk (kc707.z HB.out rfl rfl rfl rfl hb); (try clear hb); (try clear df); (try clear hk); (try clear hi); have hcz146_0 : w145.cell? ⟨ae, 0, none⟩ = some (.int .i64 ap) := (blk_cell ab.out 0).trans rfl; have hcz146_1 : w145.cell? ⟨ae, 1, none⟩ = some (.int .i64 aq) := (blk_cell ab.out 1).trans rfl; have hcz146_2 : w145.cell? ⟨ae, 2, none⟩ = some (.int .i64 ar) := (blk_cell ab.out 2).trans rfl; have hcz146_3 : w145.cell? ⟨ae, 3, none⟩ = some (.slice bh am.length bi) := (blk_cell ab.out 3).trans rfl; have hcz146_4 : w145.cell? ⟨ae, 4, none⟩ = some (.slice bj an.length bk) := (blk_cell ab.out 4).trans rfl; have hcz146_5 : w145.cell? ⟨ae, 5, none⟩ = some (.int .i64 au) := (blk_cell ab.out 5).trans rfl; have hcz146_6 : w145.cell? ⟨ae, 6, none⟩ = some (.slice bl ao.length bm) := (blk_cell ab.out 6).trans rfl; have hfz146_0 := blk_frozen ab.out 0; have hfz146_1 := blk_frozen ab.out 1; have hfz146_2 := blk_frozen ab.out 2; have hfz146_3 := blk_frozen ab.out 3; have hfz146_4 := blk_frozen ab.out 4; have hfz146_5 := blk_frozen ab.out 5; have hfz146_6 := blk_frozen ab.out 6; have hcz147_0 : w145.cell? ⟨ac, 0, none⟩ = some (.int .i64 ai) := (blk_cell aa.out 0).trans rfl; have hcz147_1 : w145.cell? ⟨ac, 1, none⟩ = some (.int .i64 aj) := (blk_cell aa.out 1).trans rfl; have hcz147_2 : w145.cell? ⟨ac, 2, none⟩ = some (.int .i64 ak) := (blk_cell aa.out 2).trans rfl; have hcz147_3 : w145.cell? ⟨ac, 3, none⟩ = some (.slice av af.length aw) := (blk_cell aa.out 3).trans rfl; have hcz147_4 : w145.cell? ⟨ac, 4, none⟩ = some (.slice ax ag.length ay) := (blk_cell aa.out 4).trans rfl; have hcz147_5 : w145.cell? ⟨ac, 5, none⟩ = some (.int .i64 al) := (blk_cell aa.out 5).trans rfl; have hcz147_6 : w145.cell? ⟨ac, 6, none⟩ = some (.slice az ah.length ba) := (blk_cell aa.out 6).trans rfl; have hfz147_0 := blk_frozen aa.out 0; have hfz147_1 := blk_frozen aa.out 1; have hfz147_2 := blk_frozen aa.out 2; have hfz147_3 := blk_frozen aa.out 3; have hfz147_4 := blk_frozen aa.out 4; have hfz147_5 := blk_frozen aa.out 5; have hfz147_6 := blk_frozen aa.out 6) | (go_at_call 12; (with_reducible refine (attr_Compare.calls dm ap aq ar _ _ am _ _ an au _ _ ao ai aj ak _ _ af _ _ ag al _ _ ah t254 _ ?side1 ?side2 ?side3 ?side4 ?side5 ?side6 ?side7 ?side8 ?side9 ?side10 ?side11 ?side12 dt.out).mono ?_); (case side1 | side3 | side5 | side7 | side9 | side11 => repeat (first | exact (Kd.C_below bn.out HB.out) | exact (Kd.C_below bp.out HB.out) | exact (Kd.C_below br.out HB.out) | exact (Kd.C_below bb.out HB.out) | exact (Kd.C_below bd.out HB.out) | exact (Kd.C_below bf.out HB.out) | (with_reducible refine Kd.C_alloc ?_ _) | (with_reducible refine Kd.C_drewN ?_ _) | (with_reducible refine Kd.C_drew ?_))); (case side2 | side4 | side6 | side8 | side10 | side12 => first | exact bo.out | exact bq.out | exact bs.out | exact bc.out | exact be.out | exact bg.out); rintro e w148 ⟨rfl, hb⟩; replace aa := Aside0.mk (kc707.q aa.out rfl hb); replace ab := Aside0.mk (kc707.q ab.out rfl hb); replace ad := Aside0.mk (kc707.q ad.out rfl hb); replace HB := Aside0.mk (kc707.z HB.out rfl rfl rfl rfl hb); (try clear hb); (try clear df); (try clear hk); (try clear hi); have hcz149_0 : w148.cell? ⟨ac, 0, none⟩ = some (.int .i64 ai) := (blk_cell aa.out 0).trans rfl; have hcz149_1 : w148.cell? ⟨ac, 1, none⟩ = some (.int .i64 aj) := (blk_cell aa.out 1).trans rfl; have hcz149_2 : w148.cell? ⟨ac, 2, none⟩ = some (.int .i64 ak) := (blk_cell aa.out 2).trans rfl; have hcz149_3 : w148.cell? ⟨ac, 3, none⟩ = some (.slice av af.length aw) := (blk_cell aa.out 3).trans rfl; have hcz149_4 : w148.cell? ⟨ac, 4, none⟩ = some (.slice ax ag.length ay) := (blk_cell aa.out 4).trans rfl; have hcz149_5 : w148.cell? ⟨ac, 5, none⟩ = some (.int .i64 al) := (blk_cell aa.out 5).trans rfl; have hcz149_6 : w148.cell? ⟨ac, 6, none⟩ = some (.slice az ah.length ba) := (blk_cell aa.out 6).trans rfl; have hfz149_0 := blk_frozen aa.out 0; have hfz149_1 := blk_frozen aa.out 1; have hfz149_2 := blk_frozen aa.out 2; have hfz149_3 := blk_frozen aa.out 3; have hfz149_4 := blk_frozen aa.out 4; have hfz149_5 := blk_frozen aa.out 5; have hfz149_6 := blk_frozen aa.out 6) | (go_at_call 12; (with_reducible refine (attr_Compare.calls dm ai aj ak _ _ af _ _ ag al _ _ ah ai aj ak _ _ af _ _ ag al _ _ ah t255 _ ?side1 ?side2 ?side3 ?side4 ?side5 ?side6 ?side7 ?side8 ?side9 ?side10 ?side11 ?side12 du.out).mono ?_); (case side1 | side3 | side5 | side7 | side9 | side11 => repeat (first | exact (Kd.C_below bb.out HB.out) | exact (Kd.C_below bd.out HB.out) | exact (Kd.C_below bf.out HB.out) | (with_reducible refine Kd.C_alloc ?_ _) | (with_reducible refine Kd.C_drewN ?_ _) | (with_reducible refine Kd.C_drew ?_))); (case side2 | side4 | side6 | side8 | side10 | side12 => first | exact bc.out | exact be.out | exact bg.out); rintro e w150 ⟨rfl, hb⟩; replace aa := Aside0.mk (kc707.q aa.out rfl hb); replace ab := Aside0.mk (kc707.q ab.out rfl hb); replace ad := Aside0.mk (kc707.q ad.out rfl hb); replace HB := Aside0.mk (kc707.z HB.out rfl rfl rfl rfl hb); (try clear hb); (try clear df); (try clear hk); (try clear hi)) | (go_at_call 10; (with_reducible refine (whirligiglaw09_lives.calls dm  t260 _ A135.out).mono ?_); rintro e w151 ⟨rfl, hb⟩; replace aa := Aside0.mk (kc707.q aa.out rfl hb); replace ab := Aside0.mk (kc707.q ab.out rfl hb); replace ad := Aside0.mk (kc707.q ad.out rfl hb); replace HB := Aside0.mk (kc707.z HB.out rfl rfl rfl rfl hb); (try clear hb); (try clear df); (try clear hk); (try clear hi)))
            go_ret
            exact ⟨by first | rfl | (simp [errW_none, errW_some] <;> rfl) | (simp [*, errW_none, errW_some] <;> rfl), by repeat (first | (with_reducible first | exact HB.out | apply below_alloc | apply pw_below_drewN | apply below_drew1) | exact HB.out)⟩
           ·rw [if_neg c134] at H
            have c134b0 : decide (t252 < 0) = false := decide_eq_false c134
            clear c134
            obtain rfl := Option.some.inj H
            try go_wp2
            replace aa := Aside0.mk (blk_drew aa.out)
            replace ab := Aside0.mk (blk_drew ab.out)
            replace ad := Aside0.mk (blk_drew ad.out)
            replace HB := Aside0.mk (below_drew1 HB.out)
            refine start_ (n := 12) (S := kc707.S0 ac ae de (.int .i64 ai) (.int .i64 aj) (.int .i64 ak) (.slice av af.length aw) (.slice ax ag.length ay) (.int .i64 al) (.slice az ah.length ba) (.int .i64 ap) (.int .i64 aq) (.int .i64 ar) (.slice bh am.length bi) (.slice bj an.length bk) (.int .i64 au) (.slice bl ao.length bm) (.int .i64 bw) (.int .i64 bx) (.int .i64 bz) (.slice b8 bt.length b9) (.slice da bu.length db) (.int .i64 b0) (.slice dc bv.length dd)) (ds := []) #[false, false, false, false, false, false, false, false, false, false, false, false] (by kernel_rfl) rfl rfl (kc707.b7 aa.out (kc707.b7 ab.out (kc707.b7e ad.out))) (fun hHeld => ?_); refine with_tabW whirligiglaw09_AttrOrder.tab3 whirligiglaw09_AttrOrder.bits3 (fun HT_ HW_ => ?_)
            generalize wc.drew = w152 at aa ab ad HB hHeld ⊢
            refine take_ (i := 0) (N := some 24) (v := ?_) (a' := ?_) #[true, false, false, false, false, false, false, false, false, false, false, false] rfl rfl (take_ofW HT_.out HW_.out (by kernel_rfl)) (fun _ _ _ h => h) (Or.inl ⟨by rfl, ?_⟩) hHeld ?_ ?_
            rotate_left
            ·rintro w' ⟨s0, s1, s2, s3, s4, s5, s6, s7, s8, s9, s10, s11, s12, s13, s14, s15, s16, s17, s18, s19, s20⟩
             go_simp
             with_reducible rfl
            rotate_left
            ·simp only [Act.put, List.setIfInBounds_toArray, List.set_cons_zero, List.set_cons_succ, i64_w, i32_w]
             rfl
            refine take_ (i := 1) (N := some 25) (v := ?_) (a' := ?_) #[true, true, false, false, false, false, false, false, false, false, false, false] rfl rfl (take_ofW HT_.out HW_.out (by kernel_rfl)) (fun _ _ _ h => h) (Or.inl ⟨by rfl, ?_⟩) hHeld ?_ ?_
            rotate_left
            ·rintro w' ⟨s0, s1, s2, s3, s4, s5, s6, s7, s8, s9, s10, s11, s12, s13, s14, s15, s16, s17, s18, s19, s20⟩
             go_simp
             with_reducible rfl
            rotate_left
            ·simp only [Act.put, List.setIfInBounds_toArray, List.set_cons_zero, List.set_cons_succ, i64_w, i32_w]
             rfl
            refine take_ (i := 3) (N := some 27) (v := ?_) (a' := ?_) #[true, true, false, true, false, false, false, false, false, false, false, false] rfl rfl (take_ofW HT_.out HW_.out (by kernel_rfl)) (fun _ _ _ h => h) (Or.inl ⟨by rfl, ?_⟩) hHeld ?_ ?_
            rotate_left
            ·rintro w' ⟨s0, s1, s2, s3, s4, s5, s6, s7, s8, s9, s10, s11, s12, s13, s14, s15, s16, s17, s18, s19, s20⟩
             go_simp
             with_reducible rfl
            rotate_left
            ·simp only [Act.put, List.setIfInBounds_toArray, List.set_cons_zero, List.set_cons_succ, i64_w, i32_w]
             rfl
            refine take_ (i := 4) (N := some 28) (v := ?_) (a' := ?_) #[true, true, false, true, true, false, false, false, false, false, false, false] rfl rfl (take_ofW HT_.out HW_.out (by kernel_rfl)) (fun _ _ _ h => h) (Or.inl ⟨by rfl, ?_⟩) hHeld ?_ ?_
            rotate_left
            ·rintro w' ⟨s0, s1, s2, s3, s4, s5, s6, s7, s8, s9, s10, s11, s12, s13, s14, s15, s16, s17, s18, s19, s20⟩
             go_simp
             with_reducible rfl
            rotate_left
            ·simp only [Act.put, List.setIfInBounds_toArray, List.set_cons_zero, List.set_cons_succ, i64_w, i32_w]
             rfl
            refine take_ (i := 6) (N := some 30) (v := ?_) (a' := ?_) #[true, true, false, true, true, false, true, false, false, false, false, false] rfl rfl (take_ofW HT_.out HW_.out (by kernel_rfl)) (fun _ _ _ h => h) (Or.inl ⟨by rfl, ?_⟩) hHeld ?_ ?_
            rotate_left
            ·rintro w' ⟨s0, s1, s2, s3, s4, s5, s6, s7, s8, s9, s10, s11, s12, s13, s14, s15, s16, s17, s18, s19, s20⟩
             go_simp
             with_reducible rfl
            rotate_left
            ·simp only [Act.put, List.setIfInBounds_toArray, List.set_cons_zero, List.set_cons_succ, i64_w, i32_w]
             rfl
            refine take_ (i := 7) (N := some 31) (v := ?_) (a' := ?_) #[true, true, false, true, true, false, true, true, false, false, false, false] rfl rfl (take_ofW HT_.out HW_.out (by kernel_rfl)) (fun _ _ _ h => h) (Or.inl ⟨by rfl, ?_⟩) hHeld ?_ ?_
            rotate_left
            ·rintro w' ⟨s0, s1, s2, s3, s4, s5, s6, s7, s8, s9, s10, s11, s12, s13, s14, s15, s16, s17, s18, s19, s20⟩
             go_simp
             with_reducible rfl
            rotate_left
            ·simp only [Act.put, List.setIfInBounds_toArray, List.set_cons_zero, List.set_cons_succ, i64_w, i32_w]
             rfl
            refine one_ (i := 2) (N := some 26) #[true, true, true, true, true, false, true, true, false, false, false, false] rfl rfl (one_of HT_.out (by kernel_rfl)) (by decide) (fun K hK => ?_)
            refine goes_ Try.func12 (by kernel_rfl) rfl #[.agg #[.int .i64 ai, .int .i64 aj, .int .i64 ak, .slice av af.length aw, .slice ax ag.length ay, .int .i64 al, .slice az ah.length ba], .agg #[.int .i64 ap, .int .i64 aq, .int .i64 ar, .slice bh am.length bi, .slice bj an.length bk, .int .i64 au, .slice bl ao.length bm]] (by rfl) rfl rfl (by (try simp only [List.map_toArray, List.map_cons, List.map_nil]); first | done | rfl) ?_
            with_reducible refine (attr_Compare.calls dm ai aj ak _ _ af _ _ ag al _ _ ah ap aq ar _ _ am _ _ an au _ _ ao t250 _ ?side1 ?side2 ?side3 ?side4 ?side5 ?side6 ?side7 ?side8 ?side9 ?side10 ?side11 ?side12 dn.out).mono ?_
            (case side1 | side3 | side5 | side7 | side9 | side11 => repeat (first | exact (Kd.C_below bb.out HB.out) | exact (Kd.C_below bd.out HB.out) | exact (Kd.C_below bf.out HB.out) | exact (Kd.C_below bn.out HB.out) | exact (Kd.C_below bp.out HB.out) | exact (Kd.C_below br.out HB.out) | (with_reducible refine Kd.C_alloc ?_ _) | (with_reducible refine Kd.C_drewN ?_ _) | (with_reducible refine Kd.C_drew ?_)))
            (case side2 | side4 | side6 | side8 | side10 | side12 => first | exact bc.out | exact be.out | exact bg.out | exact bo.out | exact bq.out | exact bs.out)
            rintro e w153 ⟨rfl, hb⟩
            refine ⟨_, rfl, ?_⟩
            replace aa := Aside0.mk (kc707.q aa.out rfl hb)
            replace ab := Aside0.mk (kc707.q ab.out rfl hb)
            replace ad := Aside0.mk (kc707.q ad.out rfl hb)
            replace HB := Aside0.mk (kc707.z HB.out rfl rfl rfl rfl hb)
            (try clear hb)
            (try clear df)
            (try clear hk)
            (try clear hi)
            refine hK.out _ _ (kc707.b7 aa.out (kc707.b7 ab.out (kc707.b7e ad.out))) (fun hHeld => ?_)
            clear hK K
            refine norm_ (a' := ?_) ?_ ?_
            rotate_left
            ·show Act.put _ (some 26) _ = _
             simp only [Act.put, List.setIfInBounds_toArray, List.set_cons_zero, List.set_cons_succ, i64_w, i32_w]
             rfl
            refine one_ (i := 5) (N := some 29) #[true, true, true, true, true, true, true, true, false, false, false, false] rfl rfl (one_of HT_.out (by kernel_rfl)) (by decide) (fun K hK => ?_)
            refine goes_ Try.func12 (by kernel_rfl) rfl #[.agg #[.int .i64 ap, .int .i64 aq, .int .i64 ar, .slice bh am.length bi, .slice bj an.length bk, .int .i64 au, .slice bl ao.length bm], .agg #[.int .i64 bw, .int .i64 bx, .int .i64 bz, .slice b8 bt.length b9, .slice da bu.length db, .int .i64 b0, .slice dc bv.length dd]] (by rfl) rfl rfl (by (try simp only [List.map_toArray, List.map_cons, List.map_nil]); first | done | rfl) ?_
            with_reducible refine (attr_Compare.calls dm ap aq ar _ _ am _ _ an au _ _ ao bw bx bz _ _ bt _ _ bu b0 _ _ bv t251 _ ?side1 ?side2 ?side3 ?side4 ?side5 ?side6 ?side7 ?side8 ?side9 ?side10 ?side11 ?side12 dp.out).mono ?_
            (case side1 | side3 | side5 | side7 | side9 | side11 => repeat (first | exact (Kd.C_below bn.out HB.out) | exact (Kd.C_below bp.out HB.out) | exact (Kd.C_below br.out HB.out) | exact (Kd.C_below dg.out HB.out) | exact (Kd.C_below di.out HB.out) | exact (Kd.C_below dk.out HB.out) | (with_reducible refine Kd.C_alloc ?_ _) | (with_reducible refine Kd.C_drewN ?_ _) | (with_reducible refine Kd.C_drew ?_)))
            (case side2 | side4 | side6 | side8 | side10 | side12 => first | exact bo.out | exact bq.out | exact bs.out | exact dh.out | exact dj.out | exact dl.out)
            rintro e w154 ⟨rfl, hb⟩
            refine ⟨_, rfl, ?_⟩
            replace aa := Aside0.mk (kc707.q aa.out rfl hb)
            replace ab := Aside0.mk (kc707.q ab.out rfl hb)
            replace ad := Aside0.mk (kc707.q ad.out rfl hb)
            replace HB := Aside0.mk (kc707.z HB.out rfl rfl rfl rfl hb)
            (try clear hb)
            (try clear df)
            (try clear hk)
            (try clear hi)
            refine hK.out _ _ (kc707.b7 aa.out (kc707.b7 ab.out (kc707.b7e ad.out))) (fun hHeld => ?_)
            clear hK K
            refine norm_ (a' := ?_) ?_ ?_
            rotate_left
            ·show Act.put _ (some 29) _ = _
             simp only [Act.put, List.setIfInBounds_toArray, List.set_cons_zero, List.set_cons_succ, i64_w, i32_w]
             rfl
            refine one_ (i := 8) (N := some 32) #[true, true, true, true, true, true, true, true, true, false, false, false] rfl rfl (one_of HT_.out (by kernel_rfl)) (by decide) (fun K hK => ?_)
            refine goes_ Try.func12 (by kernel_rfl) rfl #[.agg #[.int .i64 ai, .int .i64 aj, .int .i64 ak, .slice av af.length aw, .slice ax ag.length ay, .int .i64 al, .slice az ah.length ba], .agg #[.int .i64 bw, .int .i64 bx, .int .i64 bz, .slice b8 bt.length b9, .slice da bu.length db, .int .i64 b0, .slice dc bv.length dd]] (by rfl) rfl rfl (by (try simp only [List.map_toArray, List.map_cons, List.map_nil]); first | done | rfl) ?_
            with_reducible refine (attr_Compare.calls dm ai aj ak _ _ af _ _ ag al _ _ ah bw bx bz _ _ bt _ _ bu b0 _ _ bv t252 _ ?side1 ?side2 ?side3 ?side4 ?side5 ?side6 ?side7 ?side8 ?side9 ?side10 ?side11 ?side12 dq.out).mono ?_
            (case side1 | side3 | side5 | side7 | side9 | side11 => repeat (first | exact (Kd.C_below bb.out HB.out) | exact (Kd.C_below bd.out HB.out) | exact (Kd.C_below bf.out HB.out) | exact (Kd.C_below dg.out HB.out) | exact (Kd.C_below di.out HB.out) | exact (Kd.C_below dk.out HB.out) | (with_reducible refine Kd.C_alloc ?_ _) | (with_reducible refine Kd.C_drewN ?_ _) | (with_reducible refine Kd.C_drew ?_)))
            (case side2 | side4 | side6 | side8 | side10 | side12 => first | exact bc.out | exact be.out | exact bg.out | exact dh.out | exact dj.out | exact dl.out)
            rintro e w155 ⟨rfl, hb⟩
            refine ⟨_, rfl, ?_⟩
            replace aa := Aside0.mk (kc707.q aa.out rfl hb)
            replace ab := Aside0.mk (kc707.q ab.out rfl hb)
            replace ad := Aside0.mk (kc707.q ad.out rfl hb)
            replace HB := Aside0.mk (kc707.z HB.out rfl rfl rfl rfl hb)
            (try clear hb)
            (try clear df)
            (try clear hk)
            (try clear hi)
            refine hK.out _ _ (kc707.b7 aa.out (kc707.b7 ab.out (kc707.b7e ad.out))) (fun hHeld => ?_)
            clear hK K
            refine norm_ (a' := ?_) ?_ ?_
            rotate_left
            ·show Act.put _ (some 32) _ = _
             simp only [Act.put, List.setIfInBounds_toArray, List.set_cons_zero, List.set_cons_succ, i64_w, i32_w]
             rfl
            refine pure_ (i := 9) (N := some 7) (v := ?_) (a' := ?_) #[true, true, true, true, true, true, true, true, true, true, false, false] rfl rfl (any_of HT_.out (by kernel_rfl)) (fun _ _ _ h => h) (Or.inl ⟨by rfl, ?_⟩) ?_ ?_
            rotate_left
            ·intro w'
             go_simp
             with_reducible rfl
            rotate_left
            ·simp only [Act.put, List.setIfInBounds_toArray, List.set_cons_zero, List.set_cons_succ, i64_w, i32_w]
             rfl
            refine pure_ (i := 10) (N := some 8) (v := ?_) (a' := ?_) #[true, true, true, true, true, true, true, true, true, true, true, false] rfl rfl (any_of HT_.out (by kernel_rfl)) (fun _ _ _ h => h) (Or.inl ⟨by rfl, ?_⟩) ?_ ?_
            rotate_left
            ·intro w'
             go_simp
             with_reducible rfl
            rotate_left
            ·simp only [Act.put, List.setIfInBounds_toArray, List.set_cons_zero, List.set_cons_succ, i64_w, i32_w]
             rfl
            refine pure_ (i := 11) (N := some 9) (v := ?_) (a' := ?_) #[true, true, true, true, true, true, true, true, true, true, true, true] rfl rfl (any_of HT_.out (by kernel_rfl)) (fun _ _ _ h => h) (Or.inl ⟨by rfl, ?_⟩) ?_ ?_
            rotate_left
            ·intro w'
             go_simp
             with_reducible rfl
            rotate_left
            ·simp only [Act.put, List.setIfInBounds_toArray, List.set_cons_zero, List.set_cons_succ, i64_w, i32_w]
             rfl
            refine done_ (done_of HT_.out (by kernel_rfl)) ?_
            have hnb156 := b1.out
            have hnc156 := b2.out
            have hnb157 := b3.out
            have hnc157 := b4.out
            have hcz158_0 : w155.cell? ⟨ac, 0, none⟩ = some (.int .i64 ai) := (blk_cell aa.out 0).trans rfl
            have hcz158_1 : w155.cell? ⟨ac, 1, none⟩ = some (.int .i64 aj) := (blk_cell aa.out 1).trans rfl
            have hcz158_2 : w155.cell? ⟨ac, 2, none⟩ = some (.int .i64 ak) := (blk_cell aa.out 2).trans rfl
            have hcz158_3 : w155.cell? ⟨ac, 3, none⟩ = some (.slice av af.length aw) := (blk_cell aa.out 3).trans rfl
            have hcz158_4 : w155.cell? ⟨ac, 4, none⟩ = some (.slice ax ag.length ay) := (blk_cell aa.out 4).trans rfl
            have hcz158_5 : w155.cell? ⟨ac, 5, none⟩ = some (.int .i64 al) := (blk_cell aa.out 5).trans rfl
            have hcz158_6 : w155.cell? ⟨ac, 6, none⟩ = some (.slice az ah.length ba) := (blk_cell aa.out 6).trans rfl
            have hfz158_0 := blk_frozen aa.out 0
            have hfz158_1 := blk_frozen aa.out 1
            have hfz158_2 := blk_frozen aa.out 2
            have hfz158_3 := blk_frozen aa.out 3
            have hfz158_4 := blk_frozen aa.out 4
            have hfz158_5 := blk_frozen aa.out 5
            have hfz158_6 := blk_frozen aa.out 6
            have hnb159 := b5.out
            have hnc159 := b6.out
            have hcz160_0 : w155.cell? ⟨ae, 0, none⟩ = some (.int .i64 ap) := (blk_cell ab.out 0).trans rfl
            have hcz160_1 : w155.cell? ⟨ae, 1, none⟩ = some (.int .i64 aq) := (blk_cell ab.out 1).trans rfl
            have hcz160_2 : w155.cell? ⟨ae, 2, none⟩ = some (.int .i64 ar) := (blk_cell ab.out 2).trans rfl
            have hcz160_3 : w155.cell? ⟨ae, 3, none⟩ = some (.slice bh am.length bi) := (blk_cell ab.out 3).trans rfl
            have hcz160_4 : w155.cell? ⟨ae, 4, none⟩ = some (.slice bj an.length bk) := (blk_cell ab.out 4).trans rfl
            have hcz160_5 : w155.cell? ⟨ae, 5, none⟩ = some (.int .i64 au) := (blk_cell ab.out 5).trans rfl
            have hcz160_6 : w155.cell? ⟨ae, 6, none⟩ = some (.slice bl ao.length bm) := (blk_cell ab.out 6).trans rfl
            have hfz160_0 := blk_frozen ab.out 0
            have hfz160_1 := blk_frozen ab.out 1
            have hfz160_2 := blk_frozen ab.out 2
            have hfz160_3 := blk_frozen ab.out 3
            have hfz160_4 := blk_frozen ab.out 4
            have hfz160_5 := blk_frozen ab.out 5
            have hfz160_6 := blk_frozen ab.out 6
            try go_wp2_with (first | ((with_reducible refine gate_callee (f := 13) rfl ?_); refine goesL_ (some 36) rfl rfl Try.func13 (by kernel_rfl) rfl #[.agg #[.int .i64 ai, .int .i64 aj, .int .i64 ak, .slice av af.length aw, .slice ax ag.length ay, .int .i64 al, .slice az ah.length ba], .agg #[.int .i64 ap, .int .i64 aq, .int .i64 ar, .slice bh am.length bi, .slice bj an.length bk, .int .i64 au, .slice bl ao.length bm]] rfl (by (try simp only [List.map_toArray, List.map_cons, List.map_nil]); first | done | rfl) ?_; (with_reducible refine (whirligigref09_Compare.calls dm ai aj ak _ _ af _ _ ag al _ _ ah ap aq ar _ _ am _ _ an au _ _ ao t253 _ ?side1 ?side2 ?side3 ?side4 ?side5 ?side6 ?side7 ?side8 ?side9 ?side10 ?side11 ?side12 dr.out).mono ?_); (case side1 | side3 | side5 | side7 | side9 | side11 => repeat (first | exact (Kd.C_below bb.out HB.out) | exact (Kd.C_below bd.out HB.out) | exact (Kd.C_below bf.out HB.out) | exact (Kd.C_below bn.out HB.out) | exact (Kd.C_below bp.out HB.out) | exact (Kd.C_below br.out HB.out) | (with_reducible refine Kd.C_alloc ?_ _) | (with_reducible refine Kd.C_drewN ?_ _) | (with_reducible refine Kd.C_drew ?_))); (case side2 | side4 | side6 | side8 | side10 | side12 => first | exact bc.out | exact be.out | exact bg.out | exact bo.out | exact bq.out | exact bs.out); rintro e w161 ⟨rfl, hb⟩; refine ⟨_, rfl, ?_⟩; replace aa := Aside0.mk (kc707.q aa.out rfl hb); replace ab := Aside0.mk (kc707.q ab.out rfl hb); replace ad := Aside0.mk (kc707.q ad.out rfl hb); replace HB := Aside0.mk (kc707.z HB.out rfl rfl rfl rfl hb); (try clear hb); (try clear df); (try clear hk); (try clear hi); have hcz162_0 : w161.cell? ⟨ae, 0, none⟩ = some (.int .i64 ap) := (blk_cell ab.out 0).trans rfl; have hcz162_1 : w161.cell? ⟨ae, 1, none⟩ = some (.int .i64 aq) := (blk_cell ab.out 1).trans rfl; have hcz162_2 : w161.cell? ⟨ae, 2, none⟩ = some (.int .i64 ar) := (blk_cell ab.out 2).trans rfl; have hcz162_3 : w161.cell? ⟨ae, 3, none⟩ = some (.slice bh am.length bi) := (blk_cell ab.out 3).trans rfl; have hcz162_4 : w161.cell? ⟨ae, 4, none⟩ = some (.slice bj an.length bk) := (blk_cell ab.out 4).trans rfl; have hcz162_5 : w161.cell? ⟨ae, 5, none⟩ = some (.int .i64 au) := (blk_cell ab.out 5).trans rfl; have hcz162_6 : w161.cell? ⟨ae, 6, none⟩ = some (.slice bl ao.length bm) := (blk_cell ab.out 6).trans rfl; have hfz162_0 := blk_frozen ab.out 0; have hfz162_1 := blk_frozen ab.out 1; have hfz162_2 := blk_frozen ab.out 2; have hfz162_3 := blk_frozen ab.out 3; have hfz162_4 := blk_frozen ab.out 4; have hfz162_5 := blk_frozen ab.out 5; have hfz162_6 := blk_frozen ab.out 6; have hcz163_0 : w161.cell? ⟨ac, 0, none⟩ = some (.int .i64 ai) := (blk_cell aa.out 0).trans rfl; have hcz163_1 : w161.cell? ⟨ac, 1, none⟩ = some (.int .i64 aj) := (blk_cell aa.out 1).trans rfl; have hcz163_2 : w161.cell? ⟨ac, 2, none⟩ = some (.int .i64 ak) := (blk_cell aa.out 2).trans rfl; have hcz163_3 : w161.cell? ⟨ac, 3, none⟩ = some (.slice av af.length aw) := (blk_cell aa.out 3).trans rfl; have hcz163_4 : w161.cell? ⟨ac, 4, none⟩ = some (.slice ax ag.length ay) := (blk_cell aa.out 4).trans rfl; have hcz163_5 : w161.cell? ⟨ac, 5, none⟩ = some (.int .i64 al) := (blk_cell aa.out 5).trans rfl; have hcz163_6 : w161.cell? ⟨ac, 6, none⟩ = some (.slice az ah.length ba) := (blk_cell aa.out 6).trans rfl; have hfz163_0 := blk_frozen aa.out 0; have hfz163_1 := blk_frozen aa.out 1; have hfz163_2 := blk_frozen aa.out 2; have hfz163_3 := blk_frozen aa.out 3; have hfz163_4 := blk_frozen aa.out 4; have hfz163_5 := blk_frozen aa.out 5; have hfz163_6 := blk_frozen aa.out 6) | (go_at_call 12; (with_reducible refine (attr_Compare.calls dm ap aq ar _ _ am _ _ an au _ _ ao ai aj ak _ _ af _ _ ag al _ _ ah t254 _ ?side1 ?side2 ?side3 ?side4 ?side5 ?side6 ?side7 ?side8 ?side9 ?side10 ?side11 ?side12 dt.out).mono ?_); (case side1 | side3 | side5 | side7 | side9 | side11 => repeat (first | exact (Kd.C_below bn.out HB.out) | exact (Kd.C_below bp.out HB.out) | exact (Kd.C_below br.out HB.out) | exact (Kd.C_below bb.out HB.out) | exact (Kd.C_below bd.out HB.out) | exact (Kd.C_below bf.out HB.out) | (with_reducible refine Kd.C_alloc ?_ _) | (with_reducible refine Kd.C_drewN ?_ _) | (with_reducible refine Kd.C_drew ?_))); (case side2 | side4 | side6 | side8 | side10 | side12 => first | exact bo.out | exact bq.out | exact bs.out | exact bc.out | exact be.out | exact bg.out); rintro e w164 ⟨rfl, hb⟩; replace aa := Aside0.mk (kc707.q aa.out rfl hb); replace ab := Aside0.mk (kc707.q ab.out rfl hb); replace ad := Aside0.mk (kc707.q ad.out rfl hb); replace HB := Aside0.mk (kc707.z HB.out rfl rfl rfl rfl hb); (try clear hb); (try clear df); (try clear hk); (try clear hi); have hcz165_0 : w164.cell? ⟨ac, 0, none⟩ = some (.int .i64 ai) := (blk_cell aa.out 0).trans rfl; have hcz165_1 : w164.cell? ⟨ac, 1, none⟩ = some (.int .i64 aj) := (blk_cell aa.out 1).trans rfl; have hcz165_2 : w164.cell? ⟨ac, 2, none⟩ = some (.int .i64 ak) := (blk_cell aa.out 2).trans rfl; have hcz165_3 : w164.cell? ⟨ac, 3, none⟩ = some (.slice av af.length aw) := (blk_cell aa.out 3).trans rfl; have hcz165_4 : w164.cell? ⟨ac, 4, none⟩ = some (.slice ax ag.length ay) := (blk_cell aa.out 4).trans rfl; have hcz165_5 : w164.cell? ⟨ac, 5, none⟩ = some (.int .i64 al) := (blk_cell aa.out 5).trans rfl; have hcz165_6 : w164.cell? ⟨ac, 6, none⟩ = some (.slice az ah.length ba) := (blk_cell aa.out 6).trans rfl; have hfz165_0 := blk_frozen aa.out 0; have hfz165_1 := blk_frozen aa.out 1; have hfz165_2 := blk_frozen aa.out 2; have hfz165_3 := blk_frozen aa.out 3; have hfz165_4 := blk_frozen aa.out 4; have hfz165_5 := blk_frozen aa.out 5; have hfz165_6 := blk_frozen aa.out 6) | (go_at_call 12; (with_reducible refine (attr_Compare.calls dm ai aj ak _ _ af _ _ ag al _ _ ah ai aj ak _ _ af _ _ ag al _ _ ah t255 _ ?side1 ?side2 ?side3 ?side4 ?side5 ?side6 ?side7 ?side8 ?side9 ?side10 ?side11 ?side12 du.out).mono ?_); (case side1 | side3 | side5 | side7 | side9 | side11 => repeat (first | exact (Kd.C_below bb.out HB.out) | exact (Kd.C_below bd.out HB.out) | exact (Kd.C_below bf.out HB.out) | (with_reducible refine Kd.C_alloc ?_ _) | (with_reducible refine Kd.C_drewN ?_ _) | (with_reducible refine Kd.C_drew ?_))); (case side2 | side4 | side6 | side8 | side10 | side12 => first | exact bc.out | exact be.out | exact bg.out); rintro e w166 ⟨rfl, hb⟩; replace aa := Aside0.mk (kc707.q aa.out rfl hb); replace ab := Aside0.mk (kc707.q ab.out rfl hb); replace ad := Aside0.mk (kc707.q ad.out rfl hb); replace HB := Aside0.mk (kc707.z HB.out rfl rfl rfl rfl hb); (try clear hb); (try clear df); (try clear hk); (try clear hi)))
            go_ret
            exact ⟨by first | rfl | (simp [errW_none, errW_some] <;> rfl) | (simp [*, errW_none, errW_some] <;> rfl), by repeat (first | (with_reducible first | exact HB.out | apply below_alloc | apply pw_below_drewN | apply below_drew1) | exact HB.out)⟩
         ·rw [if_neg c81] at H
          have c81b0 : decide (t252 ≤ 0) = false := decide_eq_false c81
          clear c81
          obtain rfl := Option.some.inj H
          try go_wp2
          replace aa := Aside0.mk (blk_drew aa.out)
          replace ab := Aside0.mk (blk_drew ab.out)
          replace ad := Aside0.mk (blk_drew ad.out)
          replace HB := Aside0.mk (below_drew1 HB.out)
          refine start_ (n := 12) (S := kc707.S0 ac ae de (.int .i64 ai) (.int .i64 aj) (.int .i64 ak) (.slice av af.length aw) (.slice ax ag.length ay) (.int .i64 al) (.slice az ah.length ba) (.int .i64 ap) (.int .i64 aq) (.int .i64 ar) (.slice bh am.length bi) (.slice bj an.length bk) (.int .i64 au) (.slice bl ao.length bm) (.int .i64 bw) (.int .i64 bx) (.int .i64 bz) (.slice b8 bt.length b9) (.slice da bu.length db) (.int .i64 b0) (.slice dc bv.length dd)) (ds := []) #[false, false, false, false, false, false, false, false, false, false, false, false] (by kernel_rfl) rfl rfl (kc707.b7 aa.out (kc707.b7 ab.out (kc707.b7e ad.out))) (fun hHeld => ?_); refine with_tabW whirligiglaw09_AttrOrder.tab3 whirligiglaw09_AttrOrder.bits3 (fun HT_ HW_ => ?_)
          generalize wc.drew = w167 at aa ab ad HB hHeld ⊢
          refine take_ (i := 0) (N := some 24) (v := ?_) (a' := ?_) #[true, false, false, false, false, false, false, false, false, false, false, false] rfl rfl (take_ofW HT_.out HW_.out (by kernel_rfl)) (fun _ _ _ h => h) (Or.inl ⟨by rfl, ?_⟩) hHeld ?_ ?_
          rotate_left
          ·rintro w' ⟨s0, s1, s2, s3, s4, s5, s6, s7, s8, s9, s10, s11, s12, s13, s14, s15, s16, s17, s18, s19, s20⟩
           go_simp
           with_reducible rfl
          rotate_left
          ·simp only [Act.put, List.setIfInBounds_toArray, List.set_cons_zero, List.set_cons_succ, i64_w, i32_w]
           rfl
          refine take_ (i := 1) (N := some 25) (v := ?_) (a' := ?_) #[true, true, false, false, false, false, false, false, false, false, false, false] rfl rfl (take_ofW HT_.out HW_.out (by kernel_rfl)) (fun _ _ _ h => h) (Or.inl ⟨by rfl, ?_⟩) hHeld ?_ ?_
          rotate_left
          ·rintro w' ⟨s0, s1, s2, s3, s4, s5, s6, s7, s8, s9, s10, s11, s12, s13, s14, s15, s16, s17, s18, s19, s20⟩
           go_simp
           with_reducible rfl
          rotate_left
          ·simp only [Act.put, List.setIfInBounds_toArray, List.set_cons_zero, List.set_cons_succ, i64_w, i32_w]
           rfl
          refine take_ (i := 3) (N := some 27) (v := ?_) (a' := ?_) #[true, true, false, true, false, false, false, false, false, false, false, false] rfl rfl (take_ofW HT_.out HW_.out (by kernel_rfl)) (fun _ _ _ h => h) (Or.inl ⟨by rfl, ?_⟩) hHeld ?_ ?_
          rotate_left
          ·rintro w' ⟨s0, s1, s2, s3, s4, s5, s6, s7, s8, s9, s10, s11, s12, s13, s14, s15, s16, s17, s18, s19, s20⟩
           go_simp
           with_reducible rfl
          rotate_left
          ·simp only [Act.put, List.setIfInBounds_toArray, List.set_cons_zero, List.set_cons_succ, i64_w, i32_w]
           rfl
          refine take_ (i := 4) (N := some 28) (v := ?_) (a' := ?_) #[true, true, false, true, true, false, false, false, false, false, false, false] rfl rfl (take_ofW HT_.out HW_.out (by kernel_rfl)) (fun _ _ _ h => h) (Or.inl ⟨by rfl, ?_⟩) hHeld ?_ ?_
          rotate_left
          ·rintro w' ⟨s0, s1, s2, s3, s4, s5, s6, s7, s8, s9, s10, s11, s12, s13, s14, s15, s16, s17, s18, s19, s20⟩
           go_simp
           with_reducible rfl
          rotate_left
          ·simp only [Act.put, List.setIfInBounds_toArray, List.set_cons_zero, List.set_cons_succ, i64_w, i32_w]
           rfl
          refine take_ (i := 6) (N := some 30) (v := ?_) (a' := ?_) #[true, true, false, true, true, false, true, false, false, false, false, false] rfl rfl (take_ofW HT_.out HW_.out (by kernel_rfl)) (fun _ _ _ h => h) (Or.inl ⟨by rfl, ?_⟩) hHeld ?_ ?_
          rotate_left
          ·rintro w' ⟨s0, s1, s2, s3, s4, s5, s6, s7, s8, s9, s10, s11, s12, s13, s14, s15, s16, s17, s18, s19, s20⟩
           go_simp
           with_reducible rfl
          rotate_left
          ·simp only [Act.put, List.setIfInBounds_toArray, List.set_cons_zero, List.set_cons_succ, i64_w, i32_w]
           rfl
          refine take_ (i := 7) (N := some 31) (v := ?_) (a' := ?_) #[true, true, false, true, true, false, true, true, false, false, false, false] rfl rfl (take_ofW HT_.out HW_.out (by kernel_rfl)) (fun _ _ _ h => h) (Or.inl ⟨by rfl, ?_⟩) hHeld ?_ ?_
          rotate_left
          ·rintro w' ⟨s0, s1, s2, s3, s4, s5, s6, s7, s8, s9, s10, s11, s12, s13, s14, s15, s16, s17, s18, s19, s20⟩
           go_simp
           with_reducible rfl
          rotate_left
          ·simp only [Act.put, List.setIfInBounds_toArray, List.set_cons_zero, List.set_cons_succ, i64_w, i32_w]
           rfl
          refine one_ (i := 2) (N := some 26) #[true, true, true, true, true, false, true, true, false, false, false, false] rfl rfl (one_of HT_.out (by kernel_rfl)) (by decide) (fun K hK => ?_)
          refine goes_ Try.func12 (by kernel_rfl) rfl #[.agg #[.int .i64 ai, .int .i64 aj, .int .i64 ak, .slice av af.length aw, .slice ax ag.length ay, .int .i64 al, .slice az ah.length ba], .agg #[.int .i64 ap, .int .i64 aq, .int .i64 ar, .slice bh am.length bi, .slice bj an.length bk, .int .i64 au, .slice bl ao.length bm]] (by rfl) rfl rfl (by (try simp only [List.map_toArray, List.map_cons, List.map_nil]); first | done | rfl) ?_
          with_reducible refine (attr_Compare.calls dm ai aj ak _ _ af _ _ ag al _ _ ah ap aq ar _ _ am _ _ an au _ _ ao t250 _ ?side1 ?side2 ?side3 ?side4 ?side5 ?side6 ?side7 ?side8 ?side9 ?side10 ?side11 ?side12 dn.out).mono ?_
          (case side1 | side3 | side5 | side7 | side9 | side11 => repeat (first | exact (Kd.C_below bb.out HB.out) | exact (Kd.C_below bd.out HB.out) | exact (Kd.C_below bf.out HB.out) | exact (Kd.C_below bn.out HB.out) | exact (Kd.C_below bp.out HB.out) | exact (Kd.C_below br.out HB.out) | (with_reducible refine Kd.C_alloc ?_ _) | (with_reducible refine Kd.C_drewN ?_ _) | (with_reducible refine Kd.C_drew ?_)))
          (case side2 | side4 | side6 | side8 | side10 | side12 => first | exact bc.out | exact be.out | exact bg.out | exact bo.out | exact bq.out | exact bs.out)
          rintro e w168 ⟨rfl, hb⟩
          refine ⟨_, rfl, ?_⟩
          replace aa := Aside0.mk (kc707.q aa.out rfl hb)
          replace ab := Aside0.mk (kc707.q ab.out rfl hb)
          replace ad := Aside0.mk (kc707.q ad.out rfl hb)
          replace HB := Aside0.mk (kc707.z HB.out rfl rfl rfl rfl hb)
          (try clear hb)
          (try clear df)
          (try clear hk)
          (try clear hi)
          refine hK.out _ _ (kc707.b7 aa.out (kc707.b7 ab.out (kc707.b7e ad.out))) (fun hHeld => ?_)
          clear hK K
          refine norm_ (a' := ?_) ?_ ?_
          rotate_left
          ·show Act.put _ (some 26) _ = _
           simp only [Act.put, List.setIfInBounds_toArray, List.set_cons_zero, List.set_cons_succ, i64_w, i32_w]
           rfl
          refine one_ (i := 5) (N := some 29) #[true, true, true, true, true, true, true, true, false, false, false, false] rfl rfl (one_of HT_.out (by kernel_rfl)) (by decide) (fun K hK => ?_)
          refine goes_ Try.func12 (by kernel_rfl) rfl #[.agg #[.int .i64 ap, .int .i64 aq, .int .i64 ar, .slice bh am.length bi, .slice bj an.length bk, .int .i64 au, .slice bl ao.length bm], .agg #[.int .i64 bw, .int .i64 bx, .int .i64 bz, .slice b8 bt.length b9, .slice da bu.length db, .int .i64 b0, .slice dc bv.length dd]] (by rfl) rfl rfl (by (try simp only [List.map_toArray, List.map_cons, List.map_nil]); first | done | rfl) ?_
          with_reducible refine (attr_Compare.calls dm ap aq ar _ _ am _ _ an au _ _ ao bw bx bz _ _ bt _ _ bu b0 _ _ bv t251 _ ?side1 ?side2 ?side3 ?side4 ?side5 ?side6 ?side7 ?side8 ?side9 ?side10 ?side11 ?side12 dp.out).mono ?_
          (case side1 | side3 | side5 | side7 | side9 | side11 => repeat (first | exact (Kd.C_below bn.out HB.out) | exact (Kd.C_below bp.out HB.out) | exact (Kd.C_below br.out HB.out) | exact (Kd.C_below dg.out HB.out) | exact (Kd.C_below di.out HB.out) | exact (Kd.C_below dk.out HB.out) | (with_reducible refine Kd.C_alloc ?_ _) | (with_reducible refine Kd.C_drewN ?_ _) | (with_reducible refine Kd.C_drew ?_)))
          (case side2 | side4 | side6 | side8 | side10 | side12 => first | exact bo.out | exact bq.out | exact bs.out | exact dh.out | exact dj.out | exact dl.out)
          rintro e w169 ⟨rfl, hb⟩
          refine ⟨_, rfl, ?_⟩
          replace aa := Aside0.mk (kc707.q aa.out rfl hb)
          replace ab := Aside0.mk (kc707.q ab.out rfl hb)
          replace ad := Aside0.mk (kc707.q ad.out rfl hb)
          replace HB := Aside0.mk (kc707.z HB.out rfl rfl rfl rfl hb)
          (try clear hb)
          (try clear df)
          (try clear hk)
          (try clear hi)
          refine hK.out _ _ (kc707.b7 aa.out (kc707.b7 ab.out (kc707.b7e ad.out))) (fun hHeld => ?_)
          clear hK K
          refine norm_ (a' := ?_) ?_ ?_
          rotate_left
          ·show Act.put _ (some 29) _ = _
           simp only [Act.put, List.setIfInBounds_toArray, List.set_cons_zero, List.set_cons_succ, i64_w, i32_w]
           rfl
          refine one_ (i := 8) (N := some 32) #[true, true, true, true, true, true, true, true, true, false, false, false] rfl rfl (one_of HT_.out (by kernel_rfl)) (by decide) (fun K hK => ?_)
          refine goes_ Try.func12 (by kernel_rfl) rfl #[.agg #[.int .i64 ai, .int .i64 aj, .int .i64 ak, .slice av af.length aw, .slice ax ag.length ay, .int .i64 al, .slice az ah.length ba], .agg #[.int .i64 bw, .int .i64 bx, .int .i64 bz, .slice b8 bt.length b9, .slice da bu.length db, .int .i64 b0, .slice dc bv.length dd]] (by rfl) rfl rfl (by (try simp only [List.map_toArray, List.map_cons, List.map_nil]); first | done | rfl) ?_
          with_reducible refine (attr_Compare.calls dm ai aj ak _ _ af _ _ ag al _ _ ah bw bx bz _ _ bt _ _ bu b0 _ _ bv t252 _ ?side1 ?side2 ?side3 ?side4 ?side5 ?side6 ?side7 ?side8 ?side9 ?side10 ?side11 ?side12 dq.out).mono ?_
          (case side1 | side3 | side5 | side7 | side9 | side11 => repeat (first | exact (Kd.C_below bb.out HB.out) | exact (Kd.C_below bd.out HB.out) | exact (Kd.C_below bf.out HB.out) | exact (Kd.C_below dg.out HB.out) | exact (Kd.C_below di.out HB.out) | exact (Kd.C_below dk.out HB.out) | (with_reducible refine Kd.C_alloc ?_ _) | (with_reducible refine Kd.C_drewN ?_ _) | (with_reducible refine Kd.C_drew ?_)))
          (case side2 | side4 | side6 | side8 | side10 | side12 => first | exact bc.out | exact be.out | exact bg.out | exact dh.out | exact dj.out | exact dl.out)
          rintro e w170 ⟨rfl, hb⟩
          refine ⟨_, rfl, ?_⟩
          replace aa := Aside0.mk (kc707.q aa.out rfl hb)
          replace ab := Aside0.mk (kc707.q ab.out rfl hb)
          replace ad := Aside0.mk (kc707.q ad.out rfl hb)
          replace HB := Aside0.mk (kc707.z HB.out rfl rfl rfl rfl hb)
          (try clear hb)
          (try clear df)
          (try clear hk)
          (try clear hi)
          refine hK.out _ _ (kc707.b7 aa.out (kc707.b7 ab.out (kc707.b7e ad.out))) (fun hHeld => ?_)
          clear hK K
          refine norm_ (a' := ?_) ?_ ?_
          rotate_left
          ·show Act.put _ (some 32) _ = _
           simp only [Act.put, List.setIfInBounds_toArray, List.set_cons_zero, List.set_cons_succ, i64_w, i32_w]
           rfl
          refine pure_ (i := 9) (N := some 7) (v := ?_) (a' := ?_) #[true, true, true, true, true, true, true, true, true, true, false, false] rfl rfl (any_of HT_.out (by kernel_rfl)) (fun _ _ _ h => h) (Or.inl ⟨by rfl, ?_⟩) ?_ ?_
          rotate_left
          ·intro w'
           go_simp
           with_reducible rfl
          rotate_left
          ·simp only [Act.put, List.setIfInBounds_toArray, List.set_cons_zero, List.set_cons_succ, i64_w, i32_w]
           rfl
          refine pure_ (i := 10) (N := some 8) (v := ?_) (a' := ?_) #[true, true, true, true, true, true, true, true, true, true, true, false] rfl rfl (any_of HT_.out (by kernel_rfl)) (fun _ _ _ h => h) (Or.inl ⟨by rfl, ?_⟩) ?_ ?_
          rotate_left
          ·intro w'
           go_simp
           with_reducible rfl
          rotate_left
          ·simp only [Act.put, List.setIfInBounds_toArray, List.set_cons_zero, List.set_cons_succ, i64_w, i32_w]
           rfl
          refine pure_ (i := 11) (N := some 9) (v := ?_) (a' := ?_) #[true, true, true, true, true, true, true, true, true, true, true, true] rfl rfl (any_of HT_.out (by kernel_rfl)) (fun _ _ _ h => h) (Or.inl ⟨by rfl, ?_⟩) ?_ ?_
          rotate_left
          ·intro w'
           go_simp
           with_reducible rfl
          rotate_left
          ·simp only [Act.put, List.setIfInBounds_toArray, List.set_cons_zero, List.set_cons_succ, i64_w, i32_w]
           rfl
          refine done_ (done_of HT_.out (by kernel_rfl)) ?_
          have hnb171 := b1.out
          have hnc171 := b2.out
          have hnb172 := b3.out
          have hnc172 := b4.out
          have hcz173_0 : w170.cell? ⟨ac, 0, none⟩ = some (.int .i64 ai) := (blk_cell aa.out 0).trans rfl
          have hcz173_1 : w170.cell? ⟨ac, 1, none⟩ = some (.int .i64 aj) := (blk_cell aa.out 1).trans rfl
          have hcz173_2 : w170.cell? ⟨ac, 2, none⟩ = some (.int .i64 ak) := (blk_cell aa.out 2).trans rfl
          have hcz173_3 : w170.cell? ⟨ac, 3, none⟩ = some (.slice av af.length aw) := (blk_cell aa.out 3).trans rfl
          have hcz173_4 : w170.cell? ⟨ac, 4, none⟩ = some (.slice ax ag.length ay) := (blk_cell aa.out 4).trans rfl
          have hcz173_5 : w170.cell? ⟨ac, 5, none⟩ = some (.int .i64 al) := (blk_cell aa.out 5).trans rfl
          have hcz173_6 : w170.cell? ⟨ac, 6, none⟩ = some (.slice az ah.length ba) := (blk_cell aa.out 6).trans rfl
          have hfz173_0 := blk_frozen aa.out 0
          have hfz173_1 := blk_frozen aa.out 1
          have hfz173_2 := blk_frozen aa.out 2
          have hfz173_3 := blk_frozen aa.out 3
          have hfz173_4 := blk_frozen aa.out 4
          have hfz173_5 := blk_frozen aa.out 5
          have hfz173_6 := blk_frozen aa.out 6
          have hnb174 := b5.out
          have hnc174 := b6.out
          have hcz175_0 : w170.cell? ⟨ae, 0, none⟩ = some (.int .i64 ap) := (blk_cell ab.out 0).trans rfl
          have hcz175_1 : w170.cell? ⟨ae, 1, none⟩ = some (.int .i64 aq) := (blk_cell ab.out 1).trans rfl
          have hcz175_2 : w170.cell? ⟨ae, 2, none⟩ = some (.int .i64 ar) := (blk_cell ab.out 2).trans rfl
          have hcz175_3 : w170.cell? ⟨ae, 3, none⟩ = some (.slice bh am.length bi) := (blk_cell ab.out 3).trans rfl
          have hcz175_4 : w170.cell? ⟨ae, 4, none⟩ = some (.slice bj an.length bk) := (blk_cell ab.out 4).trans rfl
          have hcz175_5 : w170.cell? ⟨ae, 5, none⟩ = some (.int .i64 au) := (blk_cell ab.out 5).trans rfl
          have hcz175_6 : w170.cell? ⟨ae, 6, none⟩ = some (.slice bl ao.length bm) := (blk_cell ab.out 6).trans rfl
          have hfz175_0 := blk_frozen ab.out 0
          have hfz175_1 := blk_frozen ab.out 1
          have hfz175_2 := blk_frozen ab.out 2
          have hfz175_3 := blk_frozen ab.out 3
          have hfz175_4 := blk_frozen ab.out 4
          have hfz175_5 := blk_frozen ab.out 5
          have hfz175_6 := blk_frozen ab.out 6
          try go_wp2_with (first | ((with_reducible refine gate_callee (f := 13) rfl ?_); refine goesL_ (some 36) rfl rfl Try.func13 (by kernel_rfl) rfl #[.agg #[.int .i64 ai, .int .i64 aj, .int .i64 ak, .slice av af.length aw, .slice ax ag.length ay, .int .i64 al, .slice az ah.length ba], .agg #[.int .i64 ap, .int .i64 aq, .int .i64 ar, .slice bh am.length bi, .slice bj an.length bk, .int .i64 au, .slice bl ao.length bm]] rfl (by (try simp only [List.map_toArray, List.map_cons, List.map_nil]); first | done | rfl) ?_; (with_reducible refine (whirligigref09_Compare.calls dm ai aj ak _ _ af _ _ ag al _ _ ah ap aq ar _ _ am _ _ an au _ _ ao t253 _ ?side1 ?side2 ?side3 ?side4 ?side5 ?side6 ?side7 ?side8 ?side9 ?side10 ?side11 ?side12 dr.out).mono ?_); (case side1 | side3 | side5 | side7 | side9 | side11 => repeat (first | exact (Kd.C_below bb.out HB.out) | exact (Kd.C_below bd.out HB.out) | exact (Kd.C_below bf.out HB.out) | exact (Kd.C_below bn.out HB.out) | exact (Kd.C_below bp.out HB.out) | exact (Kd.C_below br.out HB.out) | (with_reducible refine Kd.C_alloc ?_ _) | (with_reducible refine Kd.C_drewN ?_ _) | (with_reducible refine Kd.C_drew ?_))); (case side2 | side4 | side6 | side8 | side10 | side12 => first | exact bc.out | exact be.out | exact bg.out | exact bo.out | exact bq.out | exact bs.out); rintro e w176 ⟨rfl, hb⟩; refine ⟨_, rfl, ?_⟩; replace aa := Aside0.mk (kc707.q aa.out rfl hb); replace ab := Aside0.mk (kc707.q ab.out rfl hb); replace ad := Aside0.mk (kc707.q ad.out rfl hb); replace HB := Aside0.mk (kc707.z HB.out rfl rfl rfl rfl hb); (try clear hb); (try clear df); (try clear hk); (try clear hi); have hcz177_0 : w176.cell? ⟨ae, 0, none⟩ = some (.int .i64 ap) := (blk_cell ab.out 0).trans rfl; have hcz177_1 : w176.cell? ⟨ae, 1, none⟩ = some (.int .i64 aq) := (blk_cell ab.out 1).trans rfl; have hcz177_2 : w176.cell? ⟨ae, 2, none⟩ = some (.int .i64 ar) := (blk_cell ab.out 2).trans rfl; have hcz177_3 : w176.cell? ⟨ae, 3, none⟩ = some (.slice bh am.length bi) := (blk_cell ab.out 3).trans rfl; have hcz177_4 : w176.cell? ⟨ae, 4, none⟩ = some (.slice bj an.length bk) := (blk_cell ab.out 4).trans rfl; have hcz177_5 : w176.cell? ⟨ae, 5, none⟩ = some (.int .i64 au) := (blk_cell ab.out 5).trans rfl; have hcz177_6 : w176.cell? ⟨ae, 6, none⟩ = some (.slice bl ao.length bm) := (blk_cell ab.out 6).trans rfl; have hfz177_0 := blk_frozen ab.out 0; have hfz177_1 := blk_frozen ab.out 1; have hfz177_2 := blk_frozen ab.out 2; have hfz177_3 := blk_frozen ab.out 3; have hfz177_4 := blk_frozen ab.out 4; have hfz177_5 := blk_frozen ab.out 5; have hfz177_6 := blk_frozen ab.out 6; have hcz178_0 : w176.cell? ⟨ac, 0, none⟩ = some (.int .i64 ai) := (blk_cell aa.out 0).trans rfl; have hcz178_1 : w176.cell? ⟨ac, 1, none⟩ = some (.int .i64 aj) := (blk_cell aa.out 1).trans rfl; have hcz178_2 : w176.cell? ⟨ac, 2, none⟩ = some (.int .i64 ak) := (blk_cell aa.out 2).trans rfl; have hcz178_3 : w176.cell? ⟨ac, 3, none⟩ = some (.slice av af.length aw) := (blk_cell aa.out 3).trans rfl; have hcz178_4 : w176.cell? ⟨ac, 4, none⟩ = some (.slice ax ag.length ay) := (blk_cell aa.out 4).trans rfl; have hcz178_5 : w176.cell? ⟨ac, 5, none⟩ = some (.int .i64 al) := (blk_cell aa.out 5).trans rfl; have hcz178_6 : w176.cell? ⟨ac, 6, none⟩ = some (.slice az ah.length ba) := (blk_cell aa.out 6).trans rfl; have hfz178_0 := blk_frozen aa.out 0; have hfz178_1 := blk_frozen aa.out 1; have hfz178_2 := blk_frozen aa.out 2; have hfz178_3 := blk_frozen aa.out 3; have hfz178_4 := blk_frozen aa.out 4; have hfz178_5 := blk_frozen aa.out 5; have hfz178_6 := blk_frozen aa.out 6) | (go_at_call 12; (with_reducible refine (attr_Compare.calls dm ap aq ar _ _ am _ _ an au _ _ ao ai aj ak _ _ af _ _ ag al _ _ ah t254 _ ?side1 ?side2 ?side3 ?side4 ?side5 ?side6 ?side7 ?side8 ?side9 ?side10 ?side11 ?side12 dt.out).mono ?_); (case side1 | side3 | side5 | side7 | side9 | side11 => repeat (first | exact (Kd.C_below bn.out HB.out) | exact (Kd.C_below bp.out HB.out) | exact (Kd.C_below br.out HB.out) | exact (Kd.C_below bb.out HB.out) | exact (Kd.C_below bd.out HB.out) | exact (Kd.C_below bf.out HB.out) | (with_reducible refine Kd.C_alloc ?_ _) | (with_reducible refine Kd.C_drewN ?_ _) | (with_reducible refine Kd.C_drew ?_))); (case side2 | side4 | side6 | side8 | side10 | side12 => first | exact bo.out | exact bq.out | exact bs.out | exact bc.out | exact be.out | exact bg.out); rintro e w179 ⟨rfl, hb⟩; replace aa := Aside0.mk (kc707.q aa.out rfl hb); replace ab := Aside0.mk (kc707.q ab.out rfl hb); replace ad := Aside0.mk (kc707.q ad.out rfl hb); replace HB := Aside0.mk (kc707.z HB.out rfl rfl rfl rfl hb); (try clear hb); (try clear df); (try clear hk); (try clear hi); have hcz180_0 : w179.cell? ⟨ac, 0, none⟩ = some (.int .i64 ai) := (blk_cell aa.out 0).trans rfl; have hcz180_1 : w179.cell? ⟨ac, 1, none⟩ = some (.int .i64 aj) := (blk_cell aa.out 1).trans rfl; have hcz180_2 : w179.cell? ⟨ac, 2, none⟩ = some (.int .i64 ak) := (blk_cell aa.out 2).trans rfl; have hcz180_3 : w179.cell? ⟨ac, 3, none⟩ = some (.slice av af.length aw) := (blk_cell aa.out 3).trans rfl; have hcz180_4 : w179.cell? ⟨ac, 4, none⟩ = some (.slice ax ag.length ay) := (blk_cell aa.out 4).trans rfl; have hcz180_5 : w179.cell? ⟨ac, 5, none⟩ = some (.int .i64 al) := (blk_cell aa.out 5).trans rfl; have hcz180_6 : w179.cell? ⟨ac, 6, none⟩ = some (.slice az ah.length ba) := (blk_cell aa.out 6).trans rfl; have hfz180_0 := blk_frozen aa.out 0; have hfz180_1 := blk_frozen aa.out 1; have hfz180_2 := blk_frozen aa.out 2; have hfz180_3 := blk_frozen aa.out 3; have hfz180_4 := blk_frozen aa.out 4; have hfz180_5 := blk_frozen aa.out 5; have hfz180_6 := blk_frozen aa.out 6) | (go_at_call 12; (with_reducible refine (attr_Compare.calls dm ai aj ak _ _ af _ _ ag al _ _ ah ai aj ak _ _ af _ _ ag al _ _ ah t255 _ ?side1 ?side2 ?side3 ?side4 ?side5 ?side6 ?side7 ?side8 ?side9 ?side10 ?side11 ?side12 du.out).mono ?_); (case side1 | side3 | side5 | side7 | side9 | side11 => repeat (first | exact (Kd.C_below bb.out HB.out) | exact (Kd.C_below bd.out HB.out) | exact (Kd.C_below bf.out HB.out) | (with_reducible refine Kd.C_alloc ?_ _) | (with_reducible refine Kd.C_drewN ?_ _) | (with_reducible refine Kd.C_drew ?_))); (case side2 | side4 | side6 | side8 | side10 | side12 => first | exact bc.out | exact be.out | exact bg.out); rintro e w181 ⟨rfl, hb⟩; replace aa := Aside0.mk (kc707.q aa.out rfl hb); replace ab := Aside0.mk (kc707.q ab.out rfl hb); replace ad := Aside0.mk (kc707.q ad.out rfl hb); replace HB := Aside0.mk (kc707.z HB.out rfl rfl rfl rfl hb); (try clear hb); (try clear df); (try clear hk); (try clear hi)))
          go_ret
          exact ⟨by first | rfl | (simp [errW_none, errW_some] <;> rfl) | (simp [*, errW_none, errW_some] <;> rfl), by repeat (first | (with_reducible first | exact HB.out | apply below_alloc | apply pw_below_drewN | apply below_drew1) | exact HB.out)⟩
      ·rw [if_neg c44] at H
       have c44b0 : (t255 == 0) = false := beq_eq_false_iff_ne.mpr c44
       have c44b1 : (t255 != 0) = true := bne_iff_ne.mpr c44
       obtain rfl := Option.some.inj H
       try go_wp2
       replace aa := Aside0.mk (blk_drew aa.out)
       replace ab := Aside0.mk (blk_drew ab.out)
       replace ad := Aside0.mk (blk_drew ad.out)
       replace HB := Aside0.mk (below_drew1 HB.out)
       refine start_ (n := 12) (S := kc707.S0 ac ae de (.int .i64 ai) (.int .i64 aj) (.int .i64 ak) (.slice av af.length aw) (.slice ax ag.length ay) (.int .i64 al) (.slice az ah.length ba) (.int .i64 ap) (.int .i64 aq) (.int .i64 ar) (.slice bh am.length bi) (.slice bj an.length bk) (.int .i64 au) (.slice bl ao.length bm) (.int .i64 bw) (.int .i64 bx) (.int .i64 bz) (.slice b8 bt.length b9) (.slice da bu.length db) (.int .i64 b0) (.slice dc bv.length dd)) (ds := []) #[false, false, false, false, false, false, false, false, false, false, false, false] (by kernel_rfl) rfl rfl (kc707.b7 aa.out (kc707.b7 ab.out (kc707.b7e ad.out))) (fun hHeld => ?_); refine with_tabW whirligiglaw09_AttrOrder.tab3 whirligiglaw09_AttrOrder.bits3 (fun HT_ HW_ => ?_)
       generalize wc.drew = w182 at aa ab ad HB hHeld ⊢
       refine take_ (i := 0) (N := some 24) (v := ?_) (a' := ?_) #[true, false, false, false, false, false, false, false, false, false, false, false] rfl rfl (take_ofW HT_.out HW_.out (by kernel_rfl)) (fun _ _ _ h => h) (Or.inl ⟨by rfl, ?_⟩) hHeld ?_ ?_
       rotate_left
       ·rintro w' ⟨s0, s1, s2, s3, s4, s5, s6, s7, s8, s9, s10, s11, s12, s13, s14, s15, s16, s17, s18, s19, s20⟩
        go_simp
        with_reducible rfl
       rotate_left
       ·simp only [Act.put, List.setIfInBounds_toArray, List.set_cons_zero, List.set_cons_succ, i64_w, i32_w]
        rfl
       refine take_ (i := 1) (N := some 25) (v := ?_) (a' := ?_) #[true, true, false, false, false, false, false, false, false, false, false, false] rfl rfl (take_ofW HT_.out HW_.out (by kernel_rfl)) (fun _ _ _ h => h) (Or.inl ⟨by rfl, ?_⟩) hHeld ?_ ?_
       rotate_left
       ·rintro w' ⟨s0, s1, s2, s3, s4, s5, s6, s7, s8, s9, s10, s11, s12, s13, s14, s15, s16, s17, s18, s19, s20⟩
        go_simp
        with_reducible rfl
       rotate_left
       ·simp only [Act.put, List.setIfInBounds_toArray, List.set_cons_zero, List.set_cons_succ, i64_w, i32_w]
        rfl
       refine take_ (i := 3) (N := some 27) (v := ?_) (a' := ?_) #[true, true, false, true, false, false, false, false, false, false, false, false] rfl rfl (take_ofW HT_.out HW_.out (by kernel_rfl)) (fun _ _ _ h => h) (Or.inl ⟨by rfl, ?_⟩) hHeld ?_ ?_
       rotate_left
       ·rintro w' ⟨s0, s1, s2, s3, s4, s5, s6, s7, s8, s9, s10, s11, s12, s13, s14, s15, s16, s17, s18, s19, s20⟩
        go_simp
        with_reducible rfl
       rotate_left
       ·simp only [Act.put, List.setIfInBounds_toArray, List.set_cons_zero, List.set_cons_succ, i64_w, i32_w]
        rfl
       refine take_ (i := 4) (N := some 28) (v := ?_) (a' := ?_) #[true, true, false, true, true, false, false, false, false, false, false, false] rfl rfl (take_ofW HT_.out HW_.out (by kernel_rfl)) (fun _ _ _ h => h) (Or.inl ⟨by rfl, ?_⟩) hHeld ?_ ?_
       rotate_left
       ·rintro w' ⟨s0, s1, s2, s3, s4, s5, s6, s7, s8, s9, s10, s11, s12, s13, s14, s15, s16, s17, s18, s19, s20⟩
        go_simp
        with_reducible rfl
       rotate_left
       ·simp only [Act.put, List.setIfInBounds_toArray, List.set_cons_zero, List.set_cons_succ, i64_w, i32_w]
        rfl
       refine take_ (i := 6) (N := some 30) (v := ?_) (a' := ?_) #[true, true, false, true, true, false, true, false, false, false, false, false] rfl rfl (take_ofW HT_.out HW_.out (by kernel_rfl)) (fun _ _ _ h => h) (Or.inl ⟨by rfl, ?_⟩) hHeld ?_ ?_
       rotate_left
       ·rintro w' ⟨s0, s1, s2, s3, s4, s5, s6, s7, s8, s9, s10, s11, s12, s13, s14, s15, s16, s17, s18, s19, s20⟩
        go_simp
        with_reducible rfl
       rotate_left
       ·simp only [Act.put, List.setIfInBounds_toArray, List.set_cons_zero, List.set_cons_succ, i64_w, i32_w]
        rfl
       refine take_ (i := 7) (N := some 31) (v := ?_) (a' := ?_) #[true, true, false, true, true, false, true, true, false, false, false, false] rfl rfl (take_ofW HT_.out HW_.out (by kernel_rfl)) (fun _ _ _ h => h) (Or.inl ⟨by rfl, ?_⟩) hHeld ?_ ?_
       rotate_left
       ·rintro w' ⟨s0, s1, s2, s3, s4, s5, s6, s7, s8, s9, s10, s11, s12, s13, s14, s15, s16, s17, s18, s19, s20⟩
        go_simp
        with_reducible rfl
       rotate_left
       ·simp only [Act.put, List.setIfInBounds_toArray, List.set_cons_zero, List.set_cons_succ, i64_w, i32_w]
        rfl
       refine one_ (i := 2) (N := some 26) #[true, true, true, true, true, false, true, true, false, false, false, false] rfl rfl (one_of HT_.out (by kernel_rfl)) (by decide) (fun K hK => ?_)
       refine goes_ Try.func12 (by kernel_rfl) rfl #[.agg #[.int .i64 ai, .int .i64 aj, .int .i64 ak, .slice av af.length aw, .slice ax ag.length ay, .int .i64 al, .slice az ah.length ba], .agg #[.int .i64 ap, .int .i64 aq, .int .i64 ar, .slice bh am.length bi, .slice bj an.length bk, .int .i64 au, .slice bl ao.length bm]] (by rfl) rfl rfl (by (try simp only [List.map_toArray, List.map_cons, List.map_nil]); first | done | rfl) ?_
       with_reducible refine (attr_Compare.calls dm ai aj ak _ _ af _ _ ag al _ _ ah ap aq ar _ _ am _ _ an au _ _ ao t250 _ ?side1 ?side2 ?side3 ?side4 ?side5 ?side6 ?side7 ?side8 ?side9 ?side10 ?side11 ?side12 dn.out).mono ?_
       (case side1 | side3 | side5 | side7 | side9 | side11 => repeat (first | exact (Kd.C_below bb.out HB.out) | exact (Kd.C_below bd.out HB.out) | exact (Kd.C_below bf.out HB.out) | exact (Kd.C_below bn.out HB.out) | exact (Kd.C_below bp.out HB.out) | exact (Kd.C_below br.out HB.out) | (with_reducible refine Kd.C_alloc ?_ _) | (with_reducible refine Kd.C_drewN ?_ _) | (with_reducible refine Kd.C_drew ?_)))
       (case side2 | side4 | side6 | side8 | side10 | side12 => first | exact bc.out | exact be.out | exact bg.out | exact bo.out | exact bq.out | exact bs.out)
       rintro e w183 ⟨rfl, hb⟩
       refine ⟨_, rfl, ?_⟩
       replace aa := Aside0.mk (kc707.q aa.out rfl hb)
       replace ab := Aside0.mk (kc707.q ab.out rfl hb)
       replace ad := Aside0.mk (kc707.q ad.out rfl hb)
       replace HB := Aside0.mk (kc707.z HB.out rfl rfl rfl rfl hb)
       (try clear hb)
       (try clear df)
       (try clear hk)
       (try clear hi)
       refine hK.out _ _ (kc707.b7 aa.out (kc707.b7 ab.out (kc707.b7e ad.out))) (fun hHeld => ?_)
       clear hK K
       refine norm_ (a' := ?_) ?_ ?_
       rotate_left
       ·show Act.put _ (some 26) _ = _
        simp only [Act.put, List.setIfInBounds_toArray, List.set_cons_zero, List.set_cons_succ, i64_w, i32_w]
        rfl
       refine one_ (i := 5) (N := some 29) #[true, true, true, true, true, true, true, true, false, false, false, false] rfl rfl (one_of HT_.out (by kernel_rfl)) (by decide) (fun K hK => ?_)
       refine goes_ Try.func12 (by kernel_rfl) rfl #[.agg #[.int .i64 ap, .int .i64 aq, .int .i64 ar, .slice bh am.length bi, .slice bj an.length bk, .int .i64 au, .slice bl ao.length bm], .agg #[.int .i64 bw, .int .i64 bx, .int .i64 bz, .slice b8 bt.length b9, .slice da bu.length db, .int .i64 b0, .slice dc bv.length dd]] (by rfl) rfl rfl (by (try simp only [List.map_toArray, List.map_cons, List.map_nil]); first | done | rfl) ?_
       with_reducible refine (attr_Compare.calls dm ap aq ar _ _ am _ _ an au _ _ ao bw bx bz _ _ bt _ _ bu b0 _ _ bv t251 _ ?side1 ?side2 ?side3 ?side4 ?side5 ?side6 ?side7 ?side8 ?side9 ?side10 ?side11 ?side12 dp.out).mono ?_
       (case side1 | side3 | side5 | side7 | side9 | side11 => repeat (first | exact (Kd.C_below bn.out HB.out) | exact (Kd.C_below bp.out HB.out) | exact (Kd.C_below br.out HB.out) | exact (Kd.C_below dg.out HB.out) | exact (Kd.C_below di.out HB.out) | exact (Kd.C_below dk.out HB.out) | (with_reducible refine Kd.C_alloc ?_ _) | (with_reducible refine Kd.C_drewN ?_ _) | (with_reducible refine Kd.C_drew ?_)))
       (case side2 | side4 | side6 | side8 | side10 | side12 => first | exact bo.out | exact bq.out | exact bs.out | exact dh.out | exact dj.out | exact dl.out)
       rintro e w184 ⟨rfl, hb⟩
       refine ⟨_, rfl, ?_⟩
       replace aa := Aside0.mk (kc707.q aa.out rfl hb)
       replace ab := Aside0.mk (kc707.q ab.out rfl hb)
       replace ad := Aside0.mk (kc707.q ad.out rfl hb)
       replace HB := Aside0.mk (kc707.z HB.out rfl rfl rfl rfl hb)
       (try clear hb)
       (try clear df)
       (try clear hk)
       (try clear hi)
       refine hK.out _ _ (kc707.b7 aa.out (kc707.b7 ab.out (kc707.b7e ad.out))) (fun hHeld => ?_)
       clear hK K
       refine norm_ (a' := ?_) ?_ ?_
       rotate_left
       ·show Act.put _ (some 29) _ = _
        simp only [Act.put, List.setIfInBounds_toArray, List.set_cons_zero, List.set_cons_succ, i64_w, i32_w]
        rfl
       refine one_ (i := 8) (N := some 32) #[true, true, true, true, true, true, true, true, true, false, false, false] rfl rfl (one_of HT_.out (by kernel_rfl)) (by decide) (fun K hK => ?_)
       refine goes_ Try.func12 (by kernel_rfl) rfl #[.agg #[.int .i64 ai, .int .i64 aj, .int .i64 ak, .slice av af.length aw, .slice ax ag.length ay, .int .i64 al, .slice az ah.length ba], .agg #[.int .i64 bw, .int .i64 bx, .int .i64 bz, .slice b8 bt.length b9, .slice da bu.length db, .int .i64 b0, .slice dc bv.length dd]] (by rfl) rfl rfl (by (try simp only [List.map_toArray, List.map_cons, List.map_nil]); first | done | rfl) ?_
       with_reducible refine (attr_Compare.calls dm ai aj ak _ _ af _ _ ag al _ _ ah bw bx bz _ _ bt _ _ bu b0 _ _ bv t252 _ ?side1 ?side2 ?side3 ?side4 ?side5 ?side6 ?side7 ?side8 ?side9 ?side10 ?side11 ?side12 dq.out).mono ?_
       (case side1 | side3 | side5 | side7 | side9 | side11 => repeat (first | exact (Kd.C_below bb.out HB.out) | exact (Kd.C_below bd.out HB.out) | exact (Kd.C_below bf.out HB.out) | exact (Kd.C_below dg.out HB.out) | exact (Kd.C_below di.out HB.out) | exact (Kd.C_below dk.out HB.out) | (with_reducible refine Kd.C_alloc ?_ _) | (with_reducible refine Kd.C_drewN ?_ _) | (with_reducible refine Kd.C_drew ?_)))
       (case side2 | side4 | side6 | side8 | side10 | side12 => first | exact bc.out | exact be.out | exact bg.out | exact dh.out | exact dj.out | exact dl.out)
       rintro e w185 ⟨rfl, hb⟩
       refine ⟨_, rfl, ?_⟩
       replace aa := Aside0.mk (kc707.q aa.out rfl hb)
       replace ab := Aside0.mk (kc707.q ab.out rfl hb)
       replace ad := Aside0.mk (kc707.q ad.out rfl hb)
       replace HB := Aside0.mk (kc707.z HB.out rfl rfl rfl rfl hb)
       (try clear hb)
       (try clear df)
       (try clear hk)
       (try clear hi)
       refine hK.out _ _ (kc707.b7 aa.out (kc707.b7 ab.out (kc707.b7e ad.out))) (fun hHeld => ?_)
       clear hK K
       refine norm_ (a' := ?_) ?_ ?_
       rotate_left
       ·show Act.put _ (some 32) _ = _
        simp only [Act.put, List.setIfInBounds_toArray, List.set_cons_zero, List.set_cons_succ, i64_w, i32_w]
        rfl
       refine pure_ (i := 9) (N := some 7) (v := ?_) (a' := ?_) #[true, true, true, true, true, true, true, true, true, true, false, false] rfl rfl (any_of HT_.out (by kernel_rfl)) (fun _ _ _ h => h) (Or.inl ⟨by rfl, ?_⟩) ?_ ?_
       rotate_left
       ·intro w'
        go_simp
        with_reducible rfl
       rotate_left
       ·simp only [Act.put, List.setIfInBounds_toArray, List.set_cons_zero, List.set_cons_succ, i64_w, i32_w]
        rfl
       refine pure_ (i := 10) (N := some 8) (v := ?_) (a' := ?_) #[true, true, true, true, true, true, true, true, true, true, true, false] rfl rfl (any_of HT_.out (by kernel_rfl)) (fun _ _ _ h => h) (Or.inl ⟨by rfl, ?_⟩) ?_ ?_
       rotate_left
       ·intro w'
        go_simp
        with_reducible rfl
       rotate_left
       ·simp only [Act.put, List.setIfInBounds_toArray, List.set_cons_zero, List.set_cons_succ, i64_w, i32_w]
        rfl
       refine pure_ (i := 11) (N := some 9) (v := ?_) (a' := ?_) #[true, true, true, true, true, true, true, true, true, true, true, true] rfl rfl (any_of HT_.out (by kernel_rfl)) (fun _ _ _ h => h) (Or.inl ⟨by rfl, ?_⟩) ?_ ?_
       rotate_left
       ·intro w'
        go_simp
        with_reducible rfl
       rotate_left
       ·simp only [Act.put, List.setIfInBounds_toArray, List.set_cons_zero, List.set_cons_succ, i64_w, i32_w]
        rfl
       refine done_ (done_of HT_.out (by kernel_rfl)) ?_
       have hnb186 := b1.out
       have hnc186 := b2.out
       have hnb187 := b3.out
       have hnc187 := b4.out
       have hcz188_0 : w185.cell? ⟨ac, 0, none⟩ = some (.int .i64 ai) := (blk_cell aa.out 0).trans rfl
       have hcz188_1 : w185.cell? ⟨ac, 1, none⟩ = some (.int .i64 aj) := (blk_cell aa.out 1).trans rfl
       have hcz188_2 : w185.cell? ⟨ac, 2, none⟩ = some (.int .i64 ak) := (blk_cell aa.out 2).trans rfl
       have hcz188_3 : w185.cell? ⟨ac, 3, none⟩ = some (.slice av af.length aw) := (blk_cell aa.out 3).trans rfl
       have hcz188_4 : w185.cell? ⟨ac, 4, none⟩ = some (.slice ax ag.length ay) := (blk_cell aa.out 4).trans rfl
       have hcz188_5 : w185.cell? ⟨ac, 5, none⟩ = some (.int .i64 al) := (blk_cell aa.out 5).trans rfl
       have hcz188_6 : w185.cell? ⟨ac, 6, none⟩ = some (.slice az ah.length ba) := (blk_cell aa.out 6).trans rfl
       have hfz188_0 := blk_frozen aa.out 0
       have hfz188_1 := blk_frozen aa.out 1
       have hfz188_2 := blk_frozen aa.out 2
       have hfz188_3 := blk_frozen aa.out 3
       have hfz188_4 := blk_frozen aa.out 4
       have hfz188_5 := blk_frozen aa.out 5
       have hfz188_6 := blk_frozen aa.out 6
       have hnb189 := b5.out
       have hnc189 := b6.out
       have hcz190_0 : w185.cell? ⟨ae, 0, none⟩ = some (.int .i64 ap) := (blk_cell ab.out 0).trans rfl
       have hcz190_1 : w185.cell? ⟨ae, 1, none⟩ = some (.int .i64 aq) := (blk_cell ab.out 1).trans rfl
       have hcz190_2 : w185.cell? ⟨ae, 2, none⟩ = some (.int .i64 ar) := (blk_cell ab.out 2).trans rfl
       have hcz190_3 : w185.cell? ⟨ae, 3, none⟩ = some (.slice bh am.length bi) := (blk_cell ab.out 3).trans rfl
       have hcz190_4 : w185.cell? ⟨ae, 4, none⟩ = some (.slice bj an.length bk) := (blk_cell ab.out 4).trans rfl
       have hcz190_5 : w185.cell? ⟨ae, 5, none⟩ = some (.int .i64 au) := (blk_cell ab.out 5).trans rfl
       have hcz190_6 : w185.cell? ⟨ae, 6, none⟩ = some (.slice bl ao.length bm) := (blk_cell ab.out 6).trans rfl
       have hfz190_0 := blk_frozen ab.out 0
       have hfz190_1 := blk_frozen ab.out 1
       have hfz190_2 := blk_frozen ab.out 2
       have hfz190_3 := blk_frozen ab.out 3
       have hfz190_4 := blk_frozen ab.out 4
       have hfz190_5 := blk_frozen ab.out 5
       have hfz190_6 := blk_frozen ab.out 6
       try go_wp2_with (first | ((with_reducible refine gate_callee (f := 13) rfl ?_); refine goesL_ (some 36) rfl rfl Try.func13 (by kernel_rfl) rfl #[.agg #[.int .i64 ai, .int .i64 aj, .int .i64 ak, .slice av af.length aw, .slice ax ag.length ay, .int .i64 al, .slice az ah.length ba], .agg #[.int .i64 ap, .int .i64 aq, .int .i64 ar, .slice bh am.length bi, .slice bj an.length bk, .int .i64 au, .slice bl ao.length bm]] rfl (by (try simp only [List.map_toArray, List.map_cons, List.map_nil]); first | done | rfl) ?_; (with_reducible refine (whirligigref09_Compare.calls dm ai aj ak _ _ af _ _ ag al _ _ ah ap aq ar _ _ am _ _ an au _ _ ao t253 _ ?side1 ?side2 ?side3 ?side4 ?side5 ?side6 ?side7 ?side8 ?side9 ?side10 ?side11 ?side12 dr.out).mono ?_); (case side1 | side3 | side5 | side7 | side9 | side11 => repeat (first | exact (Kd.C_below bb.out HB.out) | exact (Kd.C_below bd.out HB.out) | exact (Kd.C_below bf.out HB.out) | exact (Kd.C_below bn.out HB.out) | exact (Kd.C_below bp.out HB.out) | exact (Kd.C_below br.out HB.out) | (with_reducible refine Kd.C_alloc ?_ _) | (with_reducible refine Kd.C_drewN ?_ _) | (with_reducible refine Kd.C_drew ?_))); (case side2 | side4 | side6 | side8 | side10 | side12 => first | exact bc.out | exact be.out | exact bg.out | exact bo.out | exact bq.out | exact bs.out); rintro e w191 ⟨rfl, hb⟩; refine ⟨_, rfl, ?_⟩; replace aa := Aside0.mk (kc707.q aa.out rfl hb); replace ab := Aside0.mk (kc707.q ab.out rfl hb); replace ad := Aside0.mk (kc707.q ad.out rfl hb); replace HB := Aside0.mk (kc707.z HB.out rfl rfl rfl rfl hb); (try clear hb); (try clear df); (try clear hk); (try clear hi); have hcz192_0 : w191.cell? ⟨ae, 0, none⟩ = some (.int .i64 ap) := (blk_cell ab.out 0).trans rfl; have hcz192_1 : w191.cell? ⟨ae, 1, none⟩ = some (.int .i64 aq) := (blk_cell ab.out 1).trans rfl; have hcz192_2 : w191.cell? ⟨ae, 2, none⟩ = some (.int .i64 ar) := (blk_cell ab.out 2).trans rfl; have hcz192_3 : w191.cell? ⟨ae, 3, none⟩ = some (.slice bh am.length bi) := (blk_cell ab.out 3).trans rfl; have hcz192_4 : w191.cell? ⟨ae, 4, none⟩ = some (.slice bj an.length bk) := (blk_cell ab.out 4).trans rfl; have hcz192_5 : w191.cell? ⟨ae, 5, none⟩ = some (.int .i64 au) := (blk_cell ab.out 5).trans rfl; have hcz192_6 : w191.cell? ⟨ae, 6, none⟩ = some (.slice bl ao.length bm) := (blk_cell ab.out 6).trans rfl; have hfz192_0 := blk_frozen ab.out 0; have hfz192_1 := blk_frozen ab.out 1; have hfz192_2 := blk_frozen ab.out 2; have hfz192_3 := blk_frozen ab.out 3; have hfz192_4 := blk_frozen ab.out 4; have hfz192_5 := blk_frozen ab.out 5; have hfz192_6 := blk_frozen ab.out 6; have hcz193_0 : w191.cell? ⟨ac, 0, none⟩ = some (.int .i64 ai) := (blk_cell aa.out 0).trans rfl; have hcz193_1 : w191.cell? ⟨ac, 1, none⟩ = some (.int .i64 aj) := (blk_cell aa.out 1).trans rfl; have hcz193_2 : w191.cell? ⟨ac, 2, none⟩ = some (.int .i64 ak) := (blk_cell aa.out 2).trans rfl; have hcz193_3 : w191.cell? ⟨ac, 3, none⟩ = some (.slice av af.length aw) := (blk_cell aa.out 3).trans rfl; have hcz193_4 : w191.cell? ⟨ac, 4, none⟩ = some (.slice ax ag.length ay) := (blk_cell aa.out 4).trans rfl; have hcz193_5 : w191.cell? ⟨ac, 5, none⟩ = some (.int .i64 al) := (blk_cell aa.out 5).trans rfl; have hcz193_6 : w191.cell? ⟨ac, 6, none⟩ = some (.slice az ah.length ba) := (blk_cell aa.out 6).trans rfl; have hfz193_0 := blk_frozen aa.out 0; have hfz193_1 := blk_frozen aa.out 1; have hfz193_2 := blk_frozen aa.out 2; have hfz193_3 := blk_frozen aa.out 3; have hfz193_4 := blk_frozen aa.out 4; have hfz193_5 := blk_frozen aa.out 5; have hfz193_6 := blk_frozen aa.out 6) | (go_at_call 12; (with_reducible refine (attr_Compare.calls dm ap aq ar _ _ am _ _ an au _ _ ao ai aj ak _ _ af _ _ ag al _ _ ah t254 _ ?side1 ?side2 ?side3 ?side4 ?side5 ?side6 ?side7 ?side8 ?side9 ?side10 ?side11 ?side12 dt.out).mono ?_); (case side1 | side3 | side5 | side7 | side9 | side11 => repeat (first | exact (Kd.C_below bn.out HB.out) | exact (Kd.C_below bp.out HB.out) | exact (Kd.C_below br.out HB.out) | exact (Kd.C_below bb.out HB.out) | exact (Kd.C_below bd.out HB.out) | exact (Kd.C_below bf.out HB.out) | (with_reducible refine Kd.C_alloc ?_ _) | (with_reducible refine Kd.C_drewN ?_ _) | (with_reducible refine Kd.C_drew ?_))); (case side2 | side4 | side6 | side8 | side10 | side12 => first | exact bo.out | exact bq.out | exact bs.out | exact bc.out | exact be.out | exact bg.out); rintro e w194 ⟨rfl, hb⟩; replace aa := Aside0.mk (kc707.q aa.out rfl hb); replace ab := Aside0.mk (kc707.q ab.out rfl hb); replace ad := Aside0.mk (kc707.q ad.out rfl hb); replace HB := Aside0.mk (kc707.z HB.out rfl rfl rfl rfl hb); (try clear hb); (try clear df); (try clear hk); (try clear hi); have hcz195_0 : w194.cell? ⟨ac, 0, none⟩ = some (.int .i64 ai) := (blk_cell aa.out 0).trans rfl; have hcz195_1 : w194.cell? ⟨ac, 1, none⟩ = some (.int .i64 aj) := (blk_cell aa.out 1).trans rfl; have hcz195_2 : w194.cell? ⟨ac, 2, none⟩ = some (.int .i64 ak) := (blk_cell aa.out 2).trans rfl; have hcz195_3 : w194.cell? ⟨ac, 3, none⟩ = some (.slice av af.length aw) := (blk_cell aa.out 3).trans rfl; have hcz195_4 : w194.cell? ⟨ac, 4, none⟩ = some (.slice ax ag.length ay) := (blk_cell aa.out 4).trans rfl; have hcz195_5 : w194.cell? ⟨ac, 5, none⟩ = some (.int .i64 al) := (blk_cell aa.out 5).trans rfl; have hcz195_6 : w194.cell? ⟨ac, 6, none⟩ = some (.slice az ah.length ba) := (blk_cell aa.out 6).trans rfl; have hfz195_0 := blk_frozen aa.out 0; have hfz195_1 := blk_frozen aa.out 1; have hfz195_2 := blk_frozen aa.out 2; have hfz195_3 := blk_frozen aa.out 3; have hfz195_4 := blk_frozen aa.out 4; have hfz195_5 := blk_frozen aa.out 5; have hfz195_6 := blk_frozen aa.out 6) | (go_at_call 12; (with_reducible refine (attr_Compare.calls dm ai aj ak _ _ af _ _ ag al _ _ ah ai aj ak _ _ af _ _ ag al _ _ ah t255 _ ?side1 ?side2 ?side3 ?side4 ?side5 ?side6 ?side7 ?side8 ?side9 ?side10 ?side11 ?side12 du.out).mono ?_); (case side1 | side3 | side5 | side7 | side9 | side11 => repeat (first | exact (Kd.C_below bb.out HB.out) | exact (Kd.C_below bd.out HB.out) | exact (Kd.C_below bf.out HB.out) | (with_reducible refine Kd.C_alloc ?_ _) | (with_reducible refine Kd.C_drewN ?_ _) | (with_reducible refine Kd.C_drew ?_))); (case side2 | side4 | side6 | side8 | side10 | side12 => first | exact bc.out | exact be.out | exact bg.out); rintro e w196 ⟨rfl, hb⟩; replace aa := Aside0.mk (kc707.q aa.out rfl hb); replace ab := Aside0.mk (kc707.q ab.out rfl hb); replace ad := Aside0.mk (kc707.q ad.out rfl hb); replace HB := Aside0.mk (kc707.z HB.out rfl rfl rfl rfl hb); (try clear hb); (try clear df); (try clear hk); (try clear hi)))
       go_ret
       exact ⟨by first | rfl | (simp [errW_none, errW_some] <;> rfl) | (simp [*, errW_none, errW_some] <;> rfl), by repeat (first | (with_reducible first | exact HB.out | apply below_alloc | apply pw_below_drewN | apply below_drew1) | exact HB.out)⟩
     ·rw [if_neg c42] at H
      have c42b0 : (t254 == (wrap64 (-t250))) = false := beq_eq_false_iff_ne.mpr c42
      have c42b1 : (t254 != (wrap64 (-t250))) = true := bne_iff_ne.mpr c42
      obtain rfl := Option.some.inj H
      try go_wp2
      replace aa := Aside0.mk (blk_drew aa.out)
      replace ab := Aside0.mk (blk_drew ab.out)
      replace ad := Aside0.mk (blk_drew ad.out)
      replace HB := Aside0.mk (below_drew1 HB.out)
      refine start_ (n := 12) (S := kc707.S0 ac ae de (.int .i64 ai) (.int .i64 aj) (.int .i64 ak) (.slice av af.length aw) (.slice ax ag.length ay) (.int .i64 al) (.slice az ah.length ba) (.int .i64 ap) (.int .i64 aq) (.int .i64 ar) (.slice bh am.length bi) (.slice bj an.length bk) (.int .i64 au) (.slice bl ao.length bm) (.int .i64 bw) (.int .i64 bx) (.int .i64 bz) (.slice b8 bt.length b9) (.slice da bu.length db) (.int .i64 b0) (.slice dc bv.length dd)) (ds := []) #[false, false, false, false, false, false, false, false, false, false, false, false] (by kernel_rfl) rfl rfl (kc707.b7 aa.out (kc707.b7 ab.out (kc707.b7e ad.out))) (fun hHeld => ?_); refine with_tabW whirligiglaw09_AttrOrder.tab3 whirligiglaw09_AttrOrder.bits3 (fun HT_ HW_ => ?_)
      generalize wc.drew = w197 at aa ab ad HB hHeld ⊢
      refine take_ (i := 0) (N := some 24) (v := ?_) (a' := ?_) #[true, false, false, false, false, false, false, false, false, false, false, false] rfl rfl (take_ofW HT_.out HW_.out (by kernel_rfl)) (fun _ _ _ h => h) (Or.inl ⟨by rfl, ?_⟩) hHeld ?_ ?_
      rotate_left
      ·rintro w' ⟨s0, s1, s2, s3, s4, s5, s6, s7, s8, s9, s10, s11, s12, s13, s14, s15, s16, s17, s18, s19, s20⟩
       go_simp
       with_reducible rfl
      rotate_left
      ·simp only [Act.put, List.setIfInBounds_toArray, List.set_cons_zero, List.set_cons_succ, i64_w, i32_w]
       rfl
      refine take_ (i := 1) (N := some 25) (v := ?_) (a' := ?_) #[true, true, false, false, false, false, false, false, false, false, false, false] rfl rfl (take_ofW HT_.out HW_.out (by kernel_rfl)) (fun _ _ _ h => h) (Or.inl ⟨by rfl, ?_⟩) hHeld ?_ ?_
      rotate_left
      ·rintro w' ⟨s0, s1, s2, s3, s4, s5, s6, s7, s8, s9, s10, s11, s12, s13, s14, s15, s16, s17, s18, s19, s20⟩
       go_simp
       with_reducible rfl
      rotate_left
      ·simp only [Act.put, List.setIfInBounds_toArray, List.set_cons_zero, List.set_cons_succ, i64_w, i32_w]
       rfl
      refine take_ (i := 3) (N := some 27) (v := ?_) (a' := ?_) #[true, true, false, true, false, false, false, false, false, false, false, false] rfl rfl (take_ofW HT_.out HW_.out (by kernel_rfl)) (fun _ _ _ h => h) (Or.inl ⟨by rfl, ?_⟩) hHeld ?_ ?_
      rotate_left
      ·rintro w' ⟨s0, s1, s2, s3, s4, s5, s6, s7, s8, s9, s10, s11, s12, s13, s14, s15, s16, s17, s18, s19, s20⟩
       go_simp
       with_reducible rfl
      rotate_left
      ·simp only [Act.put, List.setIfInBounds_toArray, List.set_cons_zero, List.set_cons_succ, i64_w, i32_w]
       rfl
      refine take_ (i := 4) (N := some 28) (v := ?_) (a' := ?_) #[true, true, false, true, true, false, false, false, false, false, false, false] rfl rfl (take_ofW HT_.out HW_.out (by kernel_rfl)) (fun _ _ _ h => h) (Or.inl ⟨by rfl, ?_⟩) hHeld ?_ ?_
      rotate_left
      ·rintro w' ⟨s0, s1, s2, s3, s4, s5, s6, s7, s8, s9, s10, s11, s12, s13, s14, s15, s16, s17, s18, s19, s20⟩
       go_simp
       with_reducible rfl
      rotate_left
      ·simp only [Act.put, List.setIfInBounds_toArray, List.set_cons_zero, List.set_cons_succ, i64_w, i32_w]
       rfl
      refine take_ (i := 6) (N := some 30) (v := ?_) (a' := ?_) #[true, true, false, true, true, false, true, false, false, false, false, false] rfl rfl (take_ofW HT_.out HW_.out (by kernel_rfl)) (fun _ _ _ h => h) (Or.inl ⟨by rfl, ?_⟩) hHeld ?_ ?_
      rotate_left
      ·rintro w' ⟨s0, s1, s2, s3, s4, s5, s6, s7, s8, s9, s10, s11, s12, s13, s14, s15, s16, s17, s18, s19, s20⟩
       go_simp
       with_reducible rfl
      rotate_left
      ·simp only [Act.put, List.setIfInBounds_toArray, List.set_cons_zero, List.set_cons_succ, i64_w, i32_w]
       rfl
      refine take_ (i := 7) (N := some 31) (v := ?_) (a' := ?_) #[true, true, false, true, true, false, true, true, false, false, false, false] rfl rfl (take_ofW HT_.out HW_.out (by kernel_rfl)) (fun _ _ _ h => h) (Or.inl ⟨by rfl, ?_⟩) hHeld ?_ ?_
      rotate_left
      ·rintro w' ⟨s0, s1, s2, s3, s4, s5, s6, s7, s8, s9, s10, s11, s12, s13, s14, s15, s16, s17, s18, s19, s20⟩
       go_simp
       with_reducible rfl
      rotate_left
      ·simp only [Act.put, List.setIfInBounds_toArray, List.set_cons_zero, List.set_cons_succ, i64_w, i32_w]
       rfl
      refine one_ (i := 2) (N := some 26) #[true, true, true, true, true, false, true, true, false, false, false, false] rfl rfl (one_of HT_.out (by kernel_rfl)) (by decide) (fun K hK => ?_)
      refine goes_ Try.func12 (by kernel_rfl) rfl #[.agg #[.int .i64 ai, .int .i64 aj, .int .i64 ak, .slice av af.length aw, .slice ax ag.length ay, .int .i64 al, .slice az ah.length ba], .agg #[.int .i64 ap, .int .i64 aq, .int .i64 ar, .slice bh am.length bi, .slice bj an.length bk, .int .i64 au, .slice bl ao.length bm]] (by rfl) rfl rfl (by (try simp only [List.map_toArray, List.map_cons, List.map_nil]); first | done | rfl) ?_
      with_reducible refine (attr_Compare.calls dm ai aj ak _ _ af _ _ ag al _ _ ah ap aq ar _ _ am _ _ an au _ _ ao t250 _ ?side1 ?side2 ?side3 ?side4 ?side5 ?side6 ?side7 ?side8 ?side9 ?side10 ?side11 ?side12 dn.out).mono ?_
      (case side1 | side3 | side5 | side7 | side9 | side11 => repeat (first | exact (Kd.C_below bb.out HB.out) | exact (Kd.C_below bd.out HB.out) | exact (Kd.C_below bf.out HB.out) | exact (Kd.C_below bn.out HB.out) | exact (Kd.C_below bp.out HB.out) | exact (Kd.C_below br.out HB.out) | (with_reducible refine Kd.C_alloc ?_ _) | (with_reducible refine Kd.C_drewN ?_ _) | (with_reducible refine Kd.C_drew ?_)))
      (case side2 | side4 | side6 | side8 | side10 | side12 => first | exact bc.out | exact be.out | exact bg.out | exact bo.out | exact bq.out | exact bs.out)
      rintro e w198 ⟨rfl, hb⟩
      refine ⟨_, rfl, ?_⟩
      replace aa := Aside0.mk (kc707.q aa.out rfl hb)
      replace ab := Aside0.mk (kc707.q ab.out rfl hb)
      replace ad := Aside0.mk (kc707.q ad.out rfl hb)
      replace HB := Aside0.mk (kc707.z HB.out rfl rfl rfl rfl hb)
      (try clear hb)
      (try clear df)
      (try clear hk)
      (try clear hi)
      refine hK.out _ _ (kc707.b7 aa.out (kc707.b7 ab.out (kc707.b7e ad.out))) (fun hHeld => ?_)
      clear hK K
      refine norm_ (a' := ?_) ?_ ?_
      rotate_left
      ·show Act.put _ (some 26) _ = _
       simp only [Act.put, List.setIfInBounds_toArray, List.set_cons_zero, List.set_cons_succ, i64_w, i32_w]
       rfl
      refine one_ (i := 5) (N := some 29) #[true, true, true, true, true, true, true, true, false, false, false, false] rfl rfl (one_of HT_.out (by kernel_rfl)) (by decide) (fun K hK => ?_)
      refine goes_ Try.func12 (by kernel_rfl) rfl #[.agg #[.int .i64 ap, .int .i64 aq, .int .i64 ar, .slice bh am.length bi, .slice bj an.length bk, .int .i64 au, .slice bl ao.length bm], .agg #[.int .i64 bw, .int .i64 bx, .int .i64 bz, .slice b8 bt.length b9, .slice da bu.length db, .int .i64 b0, .slice dc bv.length dd]] (by rfl) rfl rfl (by (try simp only [List.map_toArray, List.map_cons, List.map_nil]); first | done | rfl) ?_
      with_reducible refine (attr_Compare.calls dm ap aq ar _ _ am _ _ an au _ _ ao bw bx bz _ _ bt _ _ bu b0 _ _ bv t251 _ ?side1 ?side2 ?side3 ?side4 ?side5 ?side6 ?side7 ?side8 ?side9 ?side10 ?side11 ?side12 dp.out).mono ?_
      (case side1 | side3 | side5 | side7 | side9 | side11 => repeat (first | exact (Kd.C_below bn.out HB.out) | exact (Kd.C_below bp.out HB.out) | exact (Kd.C_below br.out HB.out) | exact (Kd.C_below dg.out HB.out) | exact (Kd.C_below di.out HB.out) | exact (Kd.C_below dk.out HB.out) | (with_reducible refine Kd.C_alloc ?_ _) | (with_reducible refine Kd.C_drewN ?_ _) | (with_reducible refine Kd.C_drew ?_)))
      (case side2 | side4 | side6 | side8 | side10 | side12 => first | exact bo.out | exact bq.out | exact bs.out | exact dh.out | exact dj.out | exact dl.out)
      rintro e w199 ⟨rfl, hb⟩
      refine ⟨_, rfl, ?_⟩
      replace aa := Aside0.mk (kc707.q aa.out rfl hb)
      replace ab := Aside0.mk (kc707.q ab.out rfl hb)
      replace ad := Aside0.mk (kc707.q ad.out rfl hb)
      replace HB := Aside0.mk (kc707.z HB.out rfl rfl rfl rfl hb)
      (try clear hb)
      (try clear df)
      (try clear hk)
      (try clear hi)
      refine hK.out _ _ (kc707.b7 aa.out (kc707.b7 ab.out (kc707.b7e ad.out))) (fun hHeld => ?_)
      clear hK K
      refine norm_ (a' := ?_) ?_ ?_
      rotate_left
      ·show Act.put _ (some 29) _ = _
       simp only [Act.put, List.setIfInBounds_toArray, List.set_cons_zero, List.set_cons_succ, i64_w, i32_w]
       rfl
      refine one_ (i := 8) (N := some 32) #[true, true, true, true, true, true, true, true, true, false, false, false] rfl rfl (one_of HT_.out (by kernel_rfl)) (by decide) (fun K hK => ?_)
      refine goes_ Try.func12 (by kernel_rfl) rfl #[.agg #[.int .i64 ai, .int .i64 aj, .int .i64 ak, .slice av af.length aw, .slice ax ag.length ay, .int .i64 al, .slice az ah.length ba], .agg #[.int .i64 bw, .int .i64 bx, .int .i64 bz, .slice b8 bt.length b9, .slice da bu.length db, .int .i64 b0, .slice dc bv.length dd]] (by rfl) rfl rfl (by (try simp only [List.map_toArray, List.map_cons, List.map_nil]); first | done | rfl) ?_
      with_reducible refine (attr_Compare.calls dm ai aj ak _ _ af _ _ ag al _ _ ah bw bx bz _ _ bt _ _ bu b0 _ _ bv t252 _ ?side1 ?side2 ?side3 ?side4 ?side5 ?side6 ?side7 ?side8 ?side9 ?side10 ?side11 ?side12 dq.out).mono ?_
      (case side1 | side3 | side5 | side7 | side9 | side11 => repeat (first | exact (Kd.C_below bb.out HB.out) | exact (Kd.C_below bd.out HB.out) | exact (Kd.C_below bf.out HB.out) | exact (Kd.C_below dg.out HB.out) | exact (Kd.C_below di.out HB.out) | exact (Kd.C_below dk.out HB.out) | (with_reducible refine Kd.C_alloc ?_ _) | (with_reducible refine Kd.C_drewN ?_ _) | (with_reducible refine Kd.C_drew ?_)))
      (case side2 | side4 | side6 | side8 | side10 | side12 => first | exact bc.out | exact be.out | exact bg.out | exact dh.out | exact dj.out | exact dl.out)
      rintro e w200 ⟨rfl, hb⟩
      refine ⟨_, rfl, ?_⟩
      replace aa := Aside0.mk (kc707.q aa.out rfl hb)
      replace ab := Aside0.mk (kc707.q ab.out rfl hb)
      replace ad := Aside0.mk (kc707.q ad.out rfl hb)
      replace HB := Aside0.mk (kc707.z HB.out rfl rfl rfl rfl hb)
      (try clear hb)
      (try clear df)
      (try clear hk)
      (try clear hi)
      refine hK.out _ _ (kc707.b7 aa.out (kc707.b7 ab.out (kc707.b7e ad.out))) (fun hHeld => ?_)
      clear hK K
      refine norm_ (a' := ?_) ?_ ?_
      rotate_left
      ·show Act.put _ (some 32) _ = _
       simp only [Act.put, List.setIfInBounds_toArray, List.set_cons_zero, List.set_cons_succ, i64_w, i32_w]
       rfl
      refine pure_ (i := 9) (N := some 7) (v := ?_) (a' := ?_) #[true, true, true, true, true, true, true, true, true, true, false, false] rfl rfl (any_of HT_.out (by kernel_rfl)) (fun _ _ _ h => h) (Or.inl ⟨by rfl, ?_⟩) ?_ ?_
      rotate_left
      ·intro w'
       go_simp
       with_reducible rfl
      rotate_left
      ·simp only [Act.put, List.setIfInBounds_toArray, List.set_cons_zero, List.set_cons_succ, i64_w, i32_w]
       rfl
      refine pure_ (i := 10) (N := some 8) (v := ?_) (a' := ?_) #[true, true, true, true, true, true, true, true, true, true, true, false] rfl rfl (any_of HT_.out (by kernel_rfl)) (fun _ _ _ h => h) (Or.inl ⟨by rfl, ?_⟩) ?_ ?_
      rotate_left
      ·intro w'
       go_simp
       with_reducible rfl
      rotate_left
      ·simp only [Act.put, List.setIfInBounds_toArray, List.set_cons_zero, List.set_cons_succ, i64_w, i32_w]
       rfl
      refine pure_ (i := 11) (N := some 9) (v := ?_) (a' := ?_) #[true, true, true, true, true, true, true, true, true, true, true, true] rfl rfl (any_of HT_.out (by kernel_rfl)) (fun _ _ _ h => h) (Or.inl ⟨by rfl, ?_⟩) ?_ ?_
      rotate_left
      ·intro w'
       go_simp
       with_reducible rfl
      rotate_left
      ·simp only [Act.put, List.setIfInBounds_toArray, List.set_cons_zero, List.set_cons_succ, i64_w, i32_w]
       rfl
      refine done_ (done_of HT_.out (by kernel_rfl)) ?_
      have hnb201 := b1.out
      have hnc201 := b2.out
      have hnb202 := b3.out
      have hnc202 := b4.out
      have hcz203_0 : w200.cell? ⟨ac, 0, none⟩ = some (.int .i64 ai) := (blk_cell aa.out 0).trans rfl
      have hcz203_1 : w200.cell? ⟨ac, 1, none⟩ = some (.int .i64 aj) := (blk_cell aa.out 1).trans rfl
      have hcz203_2 : w200.cell? ⟨ac, 2, none⟩ = some (.int .i64 ak) := (blk_cell aa.out 2).trans rfl
      have hcz203_3 : w200.cell? ⟨ac, 3, none⟩ = some (.slice av af.length aw) := (blk_cell aa.out 3).trans rfl
      have hcz203_4 : w200.cell? ⟨ac, 4, none⟩ = some (.slice ax ag.length ay) := (blk_cell aa.out 4).trans rfl
      have hcz203_5 : w200.cell? ⟨ac, 5, none⟩ = some (.int .i64 al) := (blk_cell aa.out 5).trans rfl
      have hcz203_6 : w200.cell? ⟨ac, 6, none⟩ = some (.slice az ah.length ba) := (blk_cell aa.out 6).trans rfl
      have hfz203_0 := blk_frozen aa.out 0
      have hfz203_1 := blk_frozen aa.out 1
      have hfz203_2 := blk_frozen aa.out 2
      have hfz203_3 := blk_frozen aa.out 3
      have hfz203_4 := blk_frozen aa.out 4
      have hfz203_5 := blk_frozen aa.out 5
      have hfz203_6 := blk_frozen aa.out 6
      have hnb204 := b5.out
      have hnc204 := b6.out
      have hcz205_0 : w200.cell? ⟨ae, 0, none⟩ = some (.int .i64 ap) := (blk_cell ab.out 0).trans rfl
      have hcz205_1 : w200.cell? ⟨ae, 1, none⟩ = some (.int .i64 aq) := (blk_cell ab.out 1).trans rfl
      have hcz205_2 : w200.cell? ⟨ae, 2, none⟩ = some (.int .i64 ar) := (blk_cell ab.out 2).trans rfl
      have hcz205_3 : w200.cell? ⟨ae, 3, none⟩ = some (.slice bh am.length bi) := (blk_cell ab.out 3).trans rfl
      have hcz205_4 : w200.cell? ⟨ae, 4, none⟩ = some (.slice bj an.length bk) := (blk_cell ab.out 4).trans rfl
      have hcz205_5 : w200.cell? ⟨ae, 5, none⟩ = some (.int .i64 au) := (blk_cell ab.out 5).trans rfl
      have hcz205_6 : w200.cell? ⟨ae, 6, none⟩ = some (.slice bl ao.length bm) := (blk_cell ab.out 6).trans rfl
      have hfz205_0 := blk_frozen ab.out 0
      have hfz205_1 := blk_frozen ab.out 1
      have hfz205_2 := blk_frozen ab.out 2
      have hfz205_3 := blk_frozen ab.out 3
      have hfz205_4 := blk_frozen ab.out 4
      have hfz205_5 := blk_frozen ab.out 5
      have hfz205_6 := blk_frozen ab.out 6
      try go_wp2_with (first | ((with_reducible refine gate_callee (f := 13) rfl ?_); refine goesL_ (some 36) rfl rfl Try.func13 (by kernel_rfl) rfl #[.agg #[.int .i64 ai, .int .i64 aj, .int .i64 ak, .slice av af.length aw, .slice ax ag.length ay, .int .i64 al, .slice az ah.length ba], .agg #[.int .i64 ap, .int .i64 aq, .int .i64 ar, .slice bh am.length bi, .slice bj an.length bk, .int .i64 au, .slice bl ao.length bm]] rfl (by (try simp only [List.map_toArray, List.map_cons, List.map_nil]); first | done | rfl) ?_; (with_reducible refine (whirligigref09_Compare.calls dm ai aj ak _ _ af _ _ ag al _ _ ah ap aq ar _ _ am _ _ an au _ _ ao t253 _ ?side1 ?side2 ?side3 ?side4 ?side5 ?side6 ?side7 ?side8 ?side9 ?side10 ?side11 ?side12 dr.out).mono ?_); (case side1 | side3 | side5 | side7 | side9 | side11 => repeat (first | exact (Kd.C_below bb.out HB.out) | exact (Kd.C_below bd.out HB.out) | exact (Kd.C_below bf.out HB.out) | exact (Kd.C_below bn.out HB.out) | exact (Kd.C_below bp.out HB.out) | exact (Kd.C_below br.out HB.out) | (with_reducible refine Kd.C_alloc ?_ _) | (with_reducible refine Kd.C_drewN ?_ _) | (with_reducible refine Kd.C_drew ?_))); (case side2 | side4 | side6 | side8 | side10 | side12 => first | exact bc.out | exact be.out | exact bg.out | exact bo.out | exact bq.out | exact bs.out); rintro e w206 ⟨rfl, hb⟩; refine ⟨_, rfl, ?_⟩; replace aa := Aside0.mk (kc707.q aa.out rfl hb); replace ab := Aside0.mk (kc707.q ab.out rfl hb); replace ad := Aside0.mk (kc707.q ad.out rfl hb); replace HB := Aside0.mk (kc707.z HB.out rfl rfl rfl rfl hb); (try clear hb); (try clear df); (try clear hk); (try clear hi); have hcz207_0 : w206.cell? ⟨ae, 0, none⟩ = some (.int .i64 ap) := (blk_cell ab.out 0).trans rfl; have hcz207_1 : w206.cell? ⟨ae, 1, none⟩ = some (.int .i64 aq) := (blk_cell ab.out 1).trans rfl; have hcz207_2 : w206.cell? ⟨ae, 2, none⟩ = some (.int .i64 ar) := (blk_cell ab.out 2).trans rfl; have hcz207_3 : w206.cell? ⟨ae, 3, none⟩ = some (.slice bh am.length bi) := (blk_cell ab.out 3).trans rfl; have hcz207_4 : w206.cell? ⟨ae, 4, none⟩ = some (.slice bj an.length bk) := (blk_cell ab.out 4).trans rfl; have hcz207_5 : w206.cell? ⟨ae, 5, none⟩ = some (.int .i64 au) := (blk_cell ab.out 5).trans rfl; have hcz207_6 : w206.cell? ⟨ae, 6, none⟩ = some (.slice bl ao.length bm) := (blk_cell ab.out 6).trans rfl; have hfz207_0 := blk_frozen ab.out 0; have hfz207_1 := blk_frozen ab.out 1; have hfz207_2 := blk_frozen ab.out 2; have hfz207_3 := blk_frozen ab.out 3; have hfz207_4 := blk_frozen ab.out 4; have hfz207_5 := blk_frozen ab.out 5; have hfz207_6 := blk_frozen ab.out 6; have hcz208_0 : w206.cell? ⟨ac, 0, none⟩ = some (.int .i64 ai) := (blk_cell aa.out 0).trans rfl; have hcz208_1 : w206.cell? ⟨ac, 1, none⟩ = some (.int .i64 aj) := (blk_cell aa.out 1).trans rfl; have hcz208_2 : w206.cell? ⟨ac, 2, none⟩ = some (.int .i64 ak) := (blk_cell aa.out 2).trans rfl; have hcz208_3 : w206.cell? ⟨ac, 3, none⟩ = some (.slice av af.length aw) := (blk_cell aa.out 3).trans rfl; have hcz208_4 : w206.cell? ⟨ac, 4, none⟩ = some (.slice ax ag.length ay) := (blk_cell aa.out 4).trans rfl; have hcz208_5 : w206.cell? ⟨ac, 5, none⟩ = some (.int .i64 al) := (blk_cell aa.out 5).trans rfl; have hcz208_6 : w206.cell? ⟨ac, 6, none⟩ = some (.slice az ah.length ba) := (blk_cell aa.out 6).trans rfl; have hfz208_0 := blk_frozen aa.out 0; have hfz208_1 := blk_frozen aa.out 1; have hfz208_2 := blk_frozen aa.out 2; have hfz208_3 := blk_frozen aa.out 3; have hfz208_4 := blk_frozen aa.out 4; have hfz208_5 := blk_frozen aa.out 5; have hfz208_6 := blk_frozen aa.out 6) | (go_at_call 12; (with_reducible refine (attr_Compare.calls dm ap aq ar _ _ am _ _ an au _ _ ao ai aj ak _ _ af _ _ ag al _ _ ah t254 _ ?side1 ?side2 ?side3 ?side4 ?side5 ?side6 ?side7 ?side8 ?side9 ?side10 ?side11 ?side12 dt.out).mono ?_); (case side1 | side3 | side5 | side7 | side9 | side11 => repeat (first | exact (Kd.C_below bn.out HB.out) | exact (Kd.C_below bp.out HB.out) | exact (Kd.C_below br.out HB.out) | exact (Kd.C_below bb.out HB.out) | exact (Kd.C_below bd.out HB.out) | exact (Kd.C_below bf.out HB.out) | (with_reducible refine Kd.C_alloc ?_ _) | (with_reducible refine Kd.C_drewN ?_ _) | (with_reducible refine Kd.C_drew ?_))); (case side2 | side4 | side6 | side8 | side10 | side12 => first | exact bo.out | exact bq.out | exact bs.out | exact bc.out | exact be.out | exact bg.out); rintro e w209 ⟨rfl, hb⟩; replace aa := Aside0.mk (kc707.q aa.out rfl hb); replace ab := Aside0.mk (kc707.q ab.out rfl hb); replace ad := Aside0.mk (kc707.q ad.out rfl hb); replace HB := Aside0.mk (kc707.z HB.out rfl rfl rfl rfl hb); (try clear hb); (try clear df); (try clear hk); (try clear hi)))
      go_ret
      exact ⟨by first | rfl | (simp [errW_none, errW_some] <;> rfl) | (simp [*, errW_none, errW_some] <;> rfl), by repeat (first | (with_reducible first | exact HB.out | apply below_alloc | apply pw_below_drewN | apply below_drew1) | exact HB.out)⟩
    ·rw [if_neg c40] at H
     have c40b0 : (t250 == t253) = false := beq_eq_false_iff_ne.mpr c40
     have c40b1 : (t250 != t253) = true := bne_iff_ne.mpr c40
     obtain rfl := Option.some.inj H
     try go_wp2
     replace aa := Aside0.mk (blk_drew aa.out)
     replace ab := Aside0.mk (blk_drew ab.out)
     replace ad := Aside0.mk (blk_drew ad.out)
     replace HB := Aside0.mk (below_drew1 HB.out)
     refine start_ (n := 12) (S := kc707.S0 ac ae de (.int .i64 ai) (.int .i64 aj) (.int .i64 ak) (.slice av af.length aw) (.slice ax ag.length ay) (.int .i64 al) (.slice az ah.length ba) (.int .i64 ap) (.int .i64 aq) (.int .i64 ar) (.slice bh am.length bi) (.slice bj an.length bk) (.int .i64 au) (.slice bl ao.length bm) (.int .i64 bw) (.int .i64 bx) (.int .i64 bz) (.slice b8 bt.length b9) (.slice da bu.length db) (.int .i64 b0) (.slice dc bv.length dd)) (ds := []) #[false, false, false, false, false, false, false, false, false, false, false, false] (by kernel_rfl) rfl rfl (kc707.b7 aa.out (kc707.b7 ab.out (kc707.b7e ad.out))) (fun hHeld => ?_); refine with_tabW whirligiglaw09_AttrOrder.tab3 whirligiglaw09_AttrOrder.bits3 (fun HT_ HW_ => ?_)
     generalize wc.drew = w210 at aa ab ad HB hHeld ⊢
     refine take_ (i := 0) (N := some 24) (v := ?_) (a' := ?_) #[true, false, false, false, false, false, false, false, false, false, false, false] rfl rfl (take_ofW HT_.out HW_.out (by kernel_rfl)) (fun _ _ _ h => h) (Or.inl ⟨by rfl, ?_⟩) hHeld ?_ ?_
     rotate_left
     ·rintro w' ⟨s0, s1, s2, s3, s4, s5, s6, s7, s8, s9, s10, s11, s12, s13, s14, s15, s16, s17, s18, s19, s20⟩
      go_simp
      with_reducible rfl
     rotate_left
     ·simp only [Act.put, List.setIfInBounds_toArray, List.set_cons_zero, List.set_cons_succ, i64_w, i32_w]
      rfl
     refine take_ (i := 1) (N := some 25) (v := ?_) (a' := ?_) #[true, true, false, false, false, false, false, false, false, false, false, false] rfl rfl (take_ofW HT_.out HW_.out (by kernel_rfl)) (fun _ _ _ h => h) (Or.inl ⟨by rfl, ?_⟩) hHeld ?_ ?_
     rotate_left
     ·rintro w' ⟨s0, s1, s2, s3, s4, s5, s6, s7, s8, s9, s10, s11, s12, s13, s14, s15, s16, s17, s18, s19, s20⟩
      go_simp
      with_reducible rfl
     rotate_left
     ·simp only [Act.put, List.setIfInBounds_toArray, List.set_cons_zero, List.set_cons_succ, i64_w, i32_w]
      rfl
     refine take_ (i := 3) (N := some 27) (v := ?_) (a' := ?_) #[true, true, false, true, false, false, false, false, false, false, false, false] rfl rfl (take_ofW HT_.out HW_.out (by kernel_rfl)) (fun _ _ _ h => h) (Or.inl ⟨by rfl, ?_⟩) hHeld ?_ ?_
     rotate_left
     ·rintro w' ⟨s0, s1, s2, s3, s4, s5, s6, s7, s8, s9, s10, s11, s12, s13, s14, s15, s16, s17, s18, s19, s20⟩
      go_simp
      with_reducible rfl
     rotate_left
     ·simp only [Act.put, List.setIfInBounds_toArray, List.set_cons_zero, List.set_cons_succ, i64_w, i32_w]
      rfl
     refine take_ (i := 4) (N := some 28) (v := ?_) (a' := ?_) #[true, true, false, true, true, false, false, false, false, false, false, false] rfl rfl (take_ofW HT_.out HW_.out (by kernel_rfl)) (fun _ _ _ h => h) (Or.inl ⟨by rfl, ?_⟩) hHeld ?_ ?_
     rotate_left
     ·rintro w' ⟨s0, s1, s2, s3, s4, s5, s6, s7, s8, s9, s10, s11, s12, s13, s14, s15, s16, s17, s18, s19, s20⟩
      go_simp
      with_reducible rfl
     rotate_left
     ·simp only [Act.put, List.setIfInBounds_toArray, List.set_cons_zero, List.set_cons_succ, i64_w, i32_w]
      rfl
     refine take_ (i := 6) (N := some 30) (v := ?_) (a' := ?_) #[true, true, false, true, true, false, true, false, false, false, false, false] rfl rfl (take_ofW HT_.out HW_.out (by kernel_rfl)) (fun _ _ _ h => h) (Or.inl ⟨by rfl, ?_⟩) hHeld ?_ ?_
     rotate_left
     ·rintro w' ⟨s0, s1, s2, s3, s4, s5, s6, s7, s8, s9, s10, s11, s12, s13, s14, s15, s16, s17, s18, s19, s20⟩
      go_simp
      with_reducible rfl
     rotate_left
     ·simp only [Act.put, List.setIfInBounds_toArray, List.set_cons_zero, List.set_cons_succ, i64_w, i32_w]
      rfl
     refine take_ (i := 7) (N := some 31) (v := ?_) (a' := ?_) #[true, true, false, true, true, false, true, true, false, false, false, false] rfl rfl (take_ofW HT_.out HW_.out (by kernel_rfl)) (fun _ _ _ h => h) (Or.inl ⟨by rfl, ?_⟩) hHeld ?_ ?_
     rotate_left
     ·rintro w' ⟨s0, s1, s2, s3, s4, s5, s6, s7, s8, s9, s10, s11, s12, s13, s14, s15, s16, s17, s18, s19, s20⟩
      go_simp
      with_reducible rfl
     rotate_left
     ·simp only [Act.put, List.setIfInBounds_toArray, List.set_cons_zero, List.set_cons_succ, i64_w, i32_w]
      rfl
     refine one_ (i := 2) (N := some 26) #[true, true, true, true, true, false, true, true, false, false, false, false] rfl rfl (one_of HT_.out (by kernel_rfl)) (by decide) (fun K hK => ?_)
     refine goes_ Try.func12 (by kernel_rfl) rfl #[.agg #[.int .i64 ai, .int .i64 aj, .int .i64 ak, .slice av af.length aw, .slice ax ag.length ay, .int .i64 al, .slice az ah.length ba], .agg #[.int .i64 ap, .int .i64 aq, .int .i64 ar, .slice bh am.length bi, .slice bj an.length bk, .int .i64 au, .slice bl ao.length bm]] (by rfl) rfl rfl (by (try simp only [List.map_toArray, List.map_cons, List.map_nil]); first | done | rfl) ?_
     with_reducible refine (attr_Compare.calls dm ai aj ak _ _ af _ _ ag al _ _ ah ap aq ar _ _ am _ _ an au _ _ ao t250 _ ?side1 ?side2 ?side3 ?side4 ?side5 ?side6 ?side7 ?side8 ?side9 ?side10 ?side11 ?side12 dn.out).mono ?_
     (case side1 | side3 | side5 | side7 | side9 | side11 => repeat (first | exact (Kd.C_below bb.out HB.out) | exact (Kd.C_below bd.out HB.out) | exact (Kd.C_below bf.out HB.out) | exact (Kd.C_below bn.out HB.out) | exact (Kd.C_below bp.out HB.out) | exact (Kd.C_below br.out HB.out) | (with_reducible refine Kd.C_alloc ?_ _) | (with_reducible refine Kd.C_drewN ?_ _) | (with_reducible refine Kd.C_drew ?_)))
     (case side2 | side4 | side6 | side8 | side10 | side12 => first | exact bc.out | exact be.out | exact bg.out | exact bo.out | exact bq.out | exact bs.out)
     rintro e w211 ⟨rfl, hb⟩
     refine ⟨_, rfl, ?_⟩
     replace aa := Aside0.mk (kc707.q aa.out rfl hb)
     replace ab := Aside0.mk (kc707.q ab.out rfl hb)
     replace ad := Aside0.mk (kc707.q ad.out rfl hb)
     replace HB := Aside0.mk (kc707.z HB.out rfl rfl rfl rfl hb)
     (try clear hb)
     (try clear df)
     (try clear hk)
     (try clear hi)
     refine hK.out _ _ (kc707.b7 aa.out (kc707.b7 ab.out (kc707.b7e ad.out))) (fun hHeld => ?_)
     clear hK K
     refine norm_ (a' := ?_) ?_ ?_
     rotate_left
     ·show Act.put _ (some 26) _ = _
      simp only [Act.put, List.setIfInBounds_toArray, List.set_cons_zero, List.set_cons_succ, i64_w, i32_w]
      rfl
     refine one_ (i := 5) (N := some 29) #[true, true, true, true, true, true, true, true, false, false, false, false] rfl rfl (one_of HT_.out (by kernel_rfl)) (by decide) (fun K hK => ?_)
     refine goes_ Try.func12 (by kernel_rfl) rfl #[.agg #[.int .i64 ap, .int .i64 aq, .int .i64 ar, .slice bh am.length bi, .slice bj an.length bk, .int .i64 au, .slice bl ao.length bm], .agg #[.int .i64 bw, .int .i64 bx, .int .i64 bz, .slice b8 bt.length b9, .slice da bu.length db, .int .i64 b0, .slice dc bv.length dd]] (by rfl) rfl rfl (by (try simp only [List.map_toArray, List.map_cons, List.map_nil]); first | done | rfl) ?_
     with_reducible refine (attr_Compare.calls dm ap aq ar _ _ am _ _ an au _ _ ao bw bx bz _ _ bt _ _ bu b0 _ _ bv t251 _ ?side1 ?side2 ?side3 ?side4 ?side5 ?side6 ?side7 ?side8 ?side9 ?side10 ?side11 ?side12 dp.out).mono ?_
     (case side1 | side3 | side5 | side7 | side9 | side11 => repeat (first | exact (Kd.C_below bn.out HB.out) | exact (Kd.C_below bp.out HB.out) | exact (Kd.C_below br.out HB.out) | exact (Kd.C_below dg.out HB.out) | exact (Kd.C_below di.out HB.out) | exact (Kd.C_below dk.out HB.out) | (with_reducible refine Kd.C_alloc ?_ _) | (with_reducible refine Kd.C_drewN ?_ _) | (with_reducible refine Kd.C_drew ?_)))
     (case side2 | side4 | side6 | side8 | side10 | side12 => first | exact bo.out | exact bq.out | exact bs.out | exact dh.out | exact dj.out | exact dl.out)
     rintro e w212 ⟨rfl, hb⟩
     refine ⟨_, rfl, ?_⟩
     replace aa := Aside0.mk (kc707.q aa.out rfl hb)
     replace ab := Aside0.mk (kc707.q ab.out rfl hb)
     replace ad := Aside0.mk (kc707.q ad.out rfl hb)
     replace HB := Aside0.mk (kc707.z HB.out rfl rfl rfl rfl hb)
     (try clear hb)
     (try clear df)
     (try clear hk)
     (try clear hi)
     refine hK.out _ _ (kc707.b7 aa.out (kc707.b7 ab.out (kc707.b7e ad.out))) (fun hHeld => ?_)
     clear hK K
     refine norm_ (a' := ?_) ?_ ?_
     rotate_left
     ·show Act.put _ (some 29) _ = _
      simp only [Act.put, List.setIfInBounds_toArray, List.set_cons_zero, List.set_cons_succ, i64_w, i32_w]
      rfl
     refine one_ (i := 8) (N := some 32) #[true, true, true, true, true, true, true, true, true, false, false, false] rfl rfl (one_of HT_.out (by kernel_rfl)) (by decide) (fun K hK => ?_)
     refine goes_ Try.func12 (by kernel_rfl) rfl #[.agg #[.int .i64 ai, .int .i64 aj, .int .i64 ak, .slice av af.length aw, .slice ax ag.length ay, .int .i64 al, .slice az ah.length ba], .agg #[.int .i64 bw, .int .i64 bx, .int .i64 bz, .slice b8 bt.length b9, .slice da bu.length db, .int .i64 b0, .slice dc bv.length dd]] (by rfl) rfl rfl (by (try simp only [List.map_toArray, List.map_cons, List.map_nil]); first | done | rfl) ?_
     with_reducible refine (attr_Compare.calls dm ai aj ak _ _ af _ _ ag al _ _ ah bw bx bz _ _ bt _ _ bu b0 _ _ bv t252 _ ?side1 ?side2 ?side3 ?side4 ?side5 ?side6 ?side7 ?side8 ?side9 ?side10 ?side11 ?side12 dq.out).mono ?_
     (case side1 | side3 | side5 | side7 | side9 | side11 => repeat (first | exact (Kd.C_below bb.out HB.out) | exact (Kd.C_below bd.out HB.out) | exact (Kd.C_below bf.out HB.out) | exact (Kd.C_below dg.out HB.out) | exact (Kd.C_below di.out HB.out) | exact (Kd.C_below dk.out HB.out) | (with_reducible refine Kd.C_alloc ?_ _) | (with_reducible refine Kd.C_drewN ?_ _) | (with_reducible refine Kd.C_drew ?_)))
     (case side2 | side4 | side6 | side8 | side10 | side12 => first | exact bc.out | exact be.out | exact bg.out | exact dh.out | exact dj.out | exact dl.out)
     rintro e w213 ⟨rfl, hb⟩
     refine ⟨_, rfl, ?_⟩
     replace aa := Aside0.mk (kc707.q aa.out rfl hb)
     replace ab := Aside0.mk (kc707.q ab.out rfl hb)
     replace ad := Aside0.mk (kc707.q ad.out rfl hb)
     replace HB := Aside0.mk (kc707.z HB.out rfl rfl rfl rfl hb)
     (try clear hb)
     (try clear df)
     (try clear hk)
     (try clear hi)
     refine hK.out _ _ (kc707.b7 aa.out (kc707.b7 ab.out (kc707.b7e ad.out))) (fun hHeld => ?_)
     clear hK K
     refine norm_ (a' := ?_) ?_ ?_
     rotate_left
     ·show Act.put _ (some 32) _ = _
      simp only [Act.put, List.setIfInBounds_toArray, List.set_cons_zero, List.set_cons_succ, i64_w, i32_w]
      rfl
     refine pure_ (i := 9) (N := some 7) (v := ?_) (a' := ?_) #[true, true, true, true, true, true, true, true, true, true, false, false] rfl rfl (any_of HT_.out (by kernel_rfl)) (fun _ _ _ h => h) (Or.inl ⟨by rfl, ?_⟩) ?_ ?_
     rotate_left
     ·intro w'
      go_simp
      with_reducible rfl
     rotate_left
     ·simp only [Act.put, List.setIfInBounds_toArray, List.set_cons_zero, List.set_cons_succ, i64_w, i32_w]
      rfl
     refine pure_ (i := 10) (N := some 8) (v := ?_) (a' := ?_) #[true, true, true, true, true, true, true, true, true, true, true, false] rfl rfl (any_of HT_.out (by kernel_rfl)) (fun _ _ _ h => h) (Or.inl ⟨by rfl, ?_⟩) ?_ ?_
     rotate_left
     ·intro w'
      go_simp
      with_reducible rfl
     rotate_left
     ·simp only [Act.put, List.setIfInBounds_toArray, List.set_cons_zero, List.set_cons_succ, i64_w, i32_w]
      rfl
     refine pure_ (i := 11) (N := some 9) (v := ?_) (a' := ?_) #[true, true, true, true, true, true, true, true, true, true, true, true] rfl rfl (any_of HT_.out (by kernel_rfl)) (fun _ _ _ h => h) (Or.inl ⟨by rfl, ?_⟩) ?_ ?_
     rotate_left
     ·intro w'
      go_simp
      with_reducible rfl
     rotate_left
     ·simp only [Act.put, List.setIfInBounds_toArray, List.set_cons_zero, List.set_cons_succ, i64_w, i32_w]
      rfl
     refine done_ (done_of HT_.out (by kernel_rfl)) ?_
     have hnb214 := b1.out
     have hnc214 := b2.out
     have hnb215 := b3.out
     have hnc215 := b4.out
     have hcz216_0 : w213.cell? ⟨ac, 0, none⟩ = some (.int .i64 ai) := (blk_cell aa.out 0).trans rfl
     have hcz216_1 : w213.cell? ⟨ac, 1, none⟩ = some (.int .i64 aj) := (blk_cell aa.out 1).trans rfl
     have hcz216_2 : w213.cell? ⟨ac, 2, none⟩ = some (.int .i64 ak) := (blk_cell aa.out 2).trans rfl
     have hcz216_3 : w213.cell? ⟨ac, 3, none⟩ = some (.slice av af.length aw) := (blk_cell aa.out 3).trans rfl
     have hcz216_4 : w213.cell? ⟨ac, 4, none⟩ = some (.slice ax ag.length ay) := (blk_cell aa.out 4).trans rfl
     have hcz216_5 : w213.cell? ⟨ac, 5, none⟩ = some (.int .i64 al) := (blk_cell aa.out 5).trans rfl
     have hcz216_6 : w213.cell? ⟨ac, 6, none⟩ = some (.slice az ah.length ba) := (blk_cell aa.out 6).trans rfl
     have hfz216_0 := blk_frozen aa.out 0
     have hfz216_1 := blk_frozen aa.out 1
     have hfz216_2 := blk_frozen aa.out 2
     have hfz216_3 := blk_frozen aa.out 3
     have hfz216_4 := blk_frozen aa.out 4
     have hfz216_5 := blk_frozen aa.out 5
     have hfz216_6 := blk_frozen aa.out 6
     have hnb217 := b5.out
     have hnc217 := b6.out
     have hcz218_0 : w213.cell? ⟨ae, 0, none⟩ = some (.int .i64 ap) := (blk_cell ab.out 0).trans rfl
     have hcz218_1 : w213.cell? ⟨ae, 1, none⟩ = some (.int .i64 aq) := (blk_cell ab.out 1).trans rfl
     have hcz218_2 : w213.cell? ⟨ae, 2, none⟩ = some (.int .i64 ar) := (blk_cell ab.out 2).trans rfl
     have hcz218_3 : w213.cell? ⟨ae, 3, none⟩ = some (.slice bh am.length bi) := (blk_cell ab.out 3).trans rfl
     have hcz218_4 : w213.cell? ⟨ae, 4, none⟩ = some (.slice bj an.length bk) := (blk_cell ab.out 4).trans rfl
     have hcz218_5 : w213.cell? ⟨ae, 5, none⟩ = some (.int .i64 au) := (blk_cell ab.out 5).trans rfl
     have hcz218_6 : w213.cell? ⟨ae, 6, none⟩ = some (.slice bl ao.length bm) := (blk_cell ab.out 6).trans rfl
     have hfz218_0 := blk_frozen ab.out 0
     have hfz218_1 := blk_frozen ab.out 1
     have hfz218_2 := blk_frozen ab.out 2
     have hfz218_3 := blk_frozen ab.out 3
     have hfz218_4 := blk_frozen ab.out 4
     have hfz218_5 := blk_frozen ab.out 5
     have hfz218_6 := blk_frozen ab.out 6
     try go_wp2_with (first | ((with_reducible refine gate_callee (f := 13) rfl ?_); refine goesL_ (some 36) rfl rfl Try.func13 (by kernel_rfl) rfl #[.agg #[.int .i64 ai, .int .i64 aj, .int .i64 ak, .slice av af.length aw, .slice ax ag.length ay, .int .i64 al, .slice az ah.length ba], .agg #[.int .i64 ap, .int .i64 aq, .int .i64 ar, .slice bh am.length bi, .slice bj an.length bk, .int .i64 au, .slice bl ao.length bm]] rfl (by (try simp only [List.map_toArray, List.map_cons, List.map_nil]); first | done | rfl) ?_; (with_reducible refine (whirligigref09_Compare.calls dm ai aj ak _ _ af _ _ ag al _ _ ah ap aq ar _ _ am _ _ an au _ _ ao t253 _ ?side1 ?side2 ?side3 ?side4 ?side5 ?side6 ?side7 ?side8 ?side9 ?side10 ?side11 ?side12 dr.out).mono ?_); (case side1 | side3 | side5 | side7 | side9 | side11 => repeat (first | exact (Kd.C_below bb.out HB.out) | exact (Kd.C_below bd.out HB.out) | exact (Kd.C_below bf.out HB.out) | exact (Kd.C_below bn.out HB.out) | exact (Kd.C_below bp.out HB.out) | exact (Kd.C_below br.out HB.out) | (with_reducible refine Kd.C_alloc ?_ _) | (with_reducible refine Kd.C_drewN ?_ _) | (with_reducible refine Kd.C_drew ?_))); (case side2 | side4 | side6 | side8 | side10 | side12 => first | exact bc.out | exact be.out | exact bg.out | exact bo.out | exact bq.out | exact bs.out); rintro e w219 ⟨rfl, hb⟩; refine ⟨_, rfl, ?_⟩; replace aa := Aside0.mk (kc707.q aa.out rfl hb); replace ab := Aside0.mk (kc707.q ab.out rfl hb); replace ad := Aside0.mk (kc707.q ad.out rfl hb); replace HB := Aside0.mk (kc707.z HB.out rfl rfl rfl rfl hb); (try clear hb); (try clear df); (try clear hk); (try clear hi)))
     go_ret
     exact ⟨by first | rfl | (simp [errW_none, errW_some] <;> rfl) | (simp [*, errW_none, errW_some] <;> rfl), by repeat (first | (with_reducible first | exact HB.out | apply below_alloc | apply pw_below_drewN | apply below_drew1) | exact HB.out)⟩

end Go.Proofs.Ytnnlbofmlfafhaa.P

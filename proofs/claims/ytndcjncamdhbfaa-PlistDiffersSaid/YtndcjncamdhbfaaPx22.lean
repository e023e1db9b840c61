/- Printed by this session's own program (wip/tools/pr.py) out of the translation: functions of the program as plain Lean functions, and that the program's calls come to what these say. -/
import Derived.Test.YtndcjncamdhbfaaPx0
import Derived.Test.YtndcjncamdhbfaaPx1
import Derived.Test.YtndcjncamdhbfaaPx7
import Derived.Test.YtndcjncamdhbfaaPx9
import Derived.Test.YtndcjncamdhbfaaPx10
import Derived.Test.YtndcjncamdhbfaaPx21
namespace Go.Proofs.Ytndcjncamdhbfaa.P
open Go.RowKit Go.Proofs.YtndcjncamdhbfaaW.PrintWords Go.Proofs.YtndcjncamdhbfaaW.PrintLast Go.Proofs.YtndcjncamdhbfaaW.PrintMore
attribute [local go_sem] max2_int min2_int max_two min_two max_three min_three max_four min_four   -- for this text's walks alone
set_option linter.unusedVariables false
set_option linter.unusedSimpArgs false

attribute [local go_sem high] eqA24
/-! ### whirligiglaw02_PlistDiffers: function 8 -/
mutual
def whirligiglaw02_PlistDiffers.j0 : Nat → List (S26) → List (S26) → Bool → Int → Int → Int → Int → Int → Int → Option (Bool)
  | 0, _, _, _, _, _, _, _, _, _ => none
  | k + 1, x0, x1, x8, x9, x10, x362000, x362001, x367000, x367001 => if x10 = 0 then ((whirligigref02_Lets.f k x0 x367000 x367001).bind fun bt370 => ((whirligigref02_Lets.f k x1 x367000 x367001).bind fun bt372 => (if x9 = 0 then (if (x8 != (bt370.1 != bt372.1)) = true then (if x8 = true then (whirligiglaw02_PlistDiffers.j1 k x0 x1 x8 true x362000 x362001 x367000 x367001) else (whirligiglaw02_PlistDiffers.j1 k x0 x1 x8 (!(x367000 == 0) || (!(x367001 == 0))) x362000 x362001 x367000 x367001)) else (if x8 = true then (whirligiglaw02_PlistDiffers.j1 k x0 x1 x8 false x362000 x362001 x367000 x367001) else (whirligiglaw02_PlistDiffers.j1 k x0 x1 x8 (!(x367000 == 0) || (!(x367001 == 0))) x362000 x362001 x367000 x367001))) else (whirligiglaw02_PlistDiffers.j1 k x0 x1 x8 true x362000 x362001 x367000 x367001)))) else (if (x367000 == 0 && (x367001 == 0)) = true then (if x8 = true then (some false) else (if x9 = x10 then ((whirligiglaw02_lives.f k).bind fun t369 => (some t369)) else (some false))) else (some false))
def whirligiglaw02_PlistDiffers.j1 : Nat → List (S26) → List (S26) → Bool → Bool → Int → Int → Int → Int → Option (Bool)
  | 0, _, _, _, _, _, _, _, _ => none
  | k + 1, x0, x1, x8, x81, x362000, x362001, x367000, x367001 => if x81 = true then (some false) else ((whirligigref02_Lets.f k x0 x362000 x362001).bind fun bt374 => ((whirligigref02_Lets.f k x1 x362000 x362001).bind fun bt376 => (if (bt374.1 == bt376.1) = true then ((whirligiglaw02_lives.f k).bind fun t378 => (some t378)) else (if x8 = true then (if x367001 < x362001 then ((whirligiglaw02_lives.f k).bind fun t379 => (some t379)) else (if x367001 = x362001 then (if x367000 ≤ x362000 then ((whirligiglaw02_lives.f k).bind fun t380 => (some t380)) else (some false)) else (some false))) else (some false)))))
end
def whirligiglaw02_PlistDiffers.f (k : Nat) (l0 : List (S26)) (l1 : List (S26)) (a2_0 : Int) (a2_1 : Int) : Option (Bool) := (plist_Differ.f k l0 l1).bind fun bt362 => ((whirligigref02_Why.f k l0).bind fun t367 => (if t367 = 0 then ((whirligigref02_Why.f k l1).bind fun t368 => (whirligiglaw02_PlistDiffers.j0 k l0 l1 bt362.2.2.1 bt362.2.2.2 t368 a2_0 a2_1 bt362.1 bt362.2.1)) else (whirligiglaw02_PlistDiffers.j0 k l0 l1 bt362.2.2.1 bt362.2.2.2 t367 a2_0 a2_1 bt362.1 bt362.2.1)))
theorem whirligiglaw02_PlistDiffers.mono_l : ∀ k, (∀ y0 y1 y2 y3 y4 y5 y6 y7 y8, LeO (whirligiglaw02_PlistDiffers.j0 k y0 y1 y2 y3 y4 y5 y6 y7 y8) (whirligiglaw02_PlistDiffers.j0 (k + 1) y0 y1 y2 y3 y4 y5 y6 y7 y8)) ∧ (∀ y0 y1 y2 y3 y4 y5 y6 y7, LeO (whirligiglaw02_PlistDiffers.j1 k y0 y1 y2 y3 y4 y5 y6 y7) (whirligiglaw02_PlistDiffers.j1 (k + 1) y0 y1 y2 y3 y4 y5 y6 y7))
  | 0 => ⟨fun _ _ _ _ _ _ _ _ _ r h => by simp [whirligiglaw02_PlistDiffers.j0] at h, fun _ _ _ _ _ _ _ _ r h => by simp [whirligiglaw02_PlistDiffers.j1] at h⟩
  | k + 1 => by
    obtain ⟨ih0, ih1⟩ := whirligiglaw02_PlistDiffers.mono_l k
    refine ⟨?_, ?_⟩
    · intro y0 y1 y2 y3 y4 y5 y6 y7 y8
      unfold whirligiglaw02_PlistDiffers.j0
      repeat' first
      | (with_reducible exact ih0 _ _ _ _ _ _ _ _ _)
      | (with_reducible exact ih1 _ _ _ _ _ _ _ _)
      | (with_reducible exact plist_Differ.mono _ _ _)
      | (with_reducible exact whirligiglaw02_lives.mono _)
      | (with_reducible exact whirligigref02_Lets.mono _ _ _ _)
      | (with_reducible exact whirligigref02_Why.mono _ _)
      | (with_reducible exact LeO.refl _)
      | (with_reducible exact LeO.none _)
      | (with_reducible refine LeO.ite ?_ ?_)
      | (with_reducible refine LeO.bind ?_ (fun _ => ?_))
      | exact ih0 _ _ _ _ _ _ _ _ _
      | exact ih1 _ _ _ _ _ _ _ _
      | exact plist_Differ.mono _ _ _
      | exact whirligiglaw02_lives.mono _
      | exact whirligigref02_Lets.mono _ _ _ _
      | exact whirligigref02_Why.mono _ _
      | exact LeO.none _
      | refine LeO.ite ?_ ?_
      | refine LeO.bind ?_ (fun _ => ?_)
    · intro y0 y1 y2 y3 y4 y5 y6 y7
      unfold whirligiglaw02_PlistDiffers.j1
      repeat' first
      | (with_reducible exact ih0 _ _ _ _ _ _ _ _ _)
      | (with_reducible exact ih1 _ _ _ _ _ _ _ _)
      | (with_reducible exact plist_Differ.mono _ _ _)
      | (with_reducible exact whirligiglaw02_lives.mono _)
      | (with_reducible exact whirligigref02_Lets.mono _ _ _ _)
      | (with_reducible exact whirligigref02_Why.mono _ _)
      | (with_reducible exact LeO.refl _)
      | (with_reducible exact LeO.none _)
      | (with_reducible refine LeO.ite ?_ ?_)
      | (with_reducible refine LeO.bind ?_ (fun _ => ?_))
      | exact ih0 _ _ _ _ _ _ _ _ _
      | exact ih1 _ _ _ _ _ _ _ _
      | exact plist_Differ.mono _ _ _
      | exact whirligiglaw02_lives.mono _
      | exact whirligigref02_Lets.mono _ _ _ _
      | exact whirligigref02_Why.mono _ _
      | exact LeO.none _
      | refine LeO.ite ?_ ?_
      | refine LeO.bind ?_ (fun _ => ?_)
theorem whirligiglaw02_PlistDiffers.mono : ∀ a0 a1 a2 a3 k, LeO (whirligiglaw02_PlistDiffers.f k a0 a1 a2 a3) (whirligiglaw02_PlistDiffers.f (k + 1) a0 a1 a2 a3) := by
  intro a0 a1 a2 a3 k
  obtain ⟨ih0, ih1⟩ := whirligiglaw02_PlistDiffers.mono_l k
  unfold whirligiglaw02_PlistDiffers.f
  repeat' first
      | (with_reducible exact ih0 _ _ _ _ _ _ _ _ _)
      | (with_reducible exact ih1 _ _ _ _ _ _ _ _)
      | (with_reducible exact plist_Differ.mono _ _ _)
      | (with_reducible exact whirligiglaw02_lives.mono _)
      | (with_reducible exact whirligigref02_Lets.mono _ _ _ _)
      | (with_reducible exact whirligigref02_Why.mono _ _)
      | (with_reducible exact LeO.refl _)
      | (with_reducible exact LeO.none _)
      | (with_reducible refine LeO.ite ?_ ?_)
      | (with_reducible refine LeO.bind ?_ (fun _ => ?_))
      | exact ih0 _ _ _ _ _ _ _ _ _
      | exact ih1 _ _ _ _ _ _ _ _
      | exact plist_Differ.mono _ _ _
      | exact whirligiglaw02_lives.mono _
      | exact whirligigref02_Lets.mono _ _ _ _
      | exact whirligigref02_Why.mono _ _
      | exact LeO.none _
      | refine LeO.ite ?_ ?_
      | refine LeO.bind ?_ (fun _ => ?_)
theorem kfb47.q {w W W' : World} {g : Nat} {o : Obj} (h : w.heap[g]? = some o) (hb : Below W.heap.size W W') (e : W.heap = w.heap) : W'.heap[g]? = some o := blk_below (e ▸ h) hb
theorem kfb47.z {w0 w W W' : World} (h : Below w0.heap.size w0 w) (hb : Below W.heap.size W W') (e : W.heap = w.heap) (e1 : W.os = w.os) (e2 : W.tape = w.tape) (e3 : W.output = w.output) : Below w0.heap.size w0 W' := below_step ⟨e1.trans h.os, e2.trans h.tape, e3.trans h.output, e ▸ h.size, fun k hk => by rw [e]; exact h.block k hk⟩ hb
set_option maxHeartbeats 8000000 in
set_option maxRecDepth 100000 in
theorem whirligiglaw02_PlistDiffers.calls (k : Nat) (A0 : Option Addr) (c0 : Nat) (l0 : List (S26)) (A1 : Option Addr) (c1 : Nat) (l1 : List (S26)) (ah : Int) (ad : Int) (r : Bool) (w : World) (hr0 : Kd.C k26 w A0 l0.length l0) (hc0 : l0.length ≤ c0) (hr1 : Kd.C k26 w A1 l1.length l1) (hc1 : l1.length ≤ c1) (h : whirligiglaw02_PlistDiffers.f k l0 l1 ah ad = some r) :
  Calls Try.prog 8 #[.slice A0 l0.length c0, .slice A1 l1.length c1, .agg #[.int .u32 ah, .int .i64 ad]] w fun e w' => e = .returned (.bool r) ∧ Below w.heap.size w w' := by
 have hu24 := Try.underlying24
 have ap := Aside0.mk hr0
 have aq := Aside0.mk hc0
 clear hr0 hc0
 have ar := Aside0.mk hr1
 have au := Aside0.mk hc1
 clear hr1 hc1
 have HB := Aside0.mk (Below.refl w.heap.size w)
 have H := h
 unfold whirligiglaw02_PlistDiffers.f at H
 clear h
 replace H := Option.bind_eq_some_iff.mp H
 obtain ⟨⟨t362, t363, t364, t365⟩, A40, H⟩ := H
 (try dsimp only at H)
 have A4 := Aside0.mk A40
 clear A40
 replace H := Option.bind_eq_some_iff.mp H
 obtain ⟨t367, A50, H⟩ := H
 (try dsimp only at H)
 have A5 := Aside0.mk A50
 clear A50
 have HC6 := Aside0.mk H
 clear H
 go_enter Try.func8, Try.ntmps8
 go_upto_if 29 with (first | ((with_reducible refine gate_dst (N := 5) rfl ?_); refine box_event ?hg (N := 5) ?hd (cs := #[.int .u32 ah, .int .i64 ad]) (t := 24) ?hr ?_; (case hd => rfl); (case hg => rfl); (case hr => first | (go_simp; done) | (go_simp; rfl)); intro ae hg w7 hbox hb; have n0_ := Aside0.mk (kfb47.z HB.out hb rfl rfl rfl rfl); have n1_ := Aside0.mk (hbox); have n2_ := Aside0.mk ((by rw [hg]; exact (below_size (by repeat (first | (with_reducible first | exact HB.out | apply below_alloc | apply pw_below_drewN | apply below_drew1) | exact HB.out))) : w.heap.size ≤ ae)); have n3_ := Aside0.mk ((by rw [hg]; exact (below_size (by repeat (first | (with_reducible first | exact HB.out | apply below_alloc | apply pw_below_drewN | apply below_drew1) | exact HB.out))) : w.heap.size ≤ ae)); clear HB; have HB := n0_; have aa := n1_; have GW361 := n2_; have ac := n3_; clear n0_ n1_ n2_ n3_; clear hb hbox hg) | ((with_reducible refine gate_callee (f := 26) rfl ?_); refine goesL_ (some 22) rfl rfl Try.func26 (by kernel_rfl) rfl #[.slice A0 l0.length c0, .slice A1 l1.length c1] rfl (by (try simp only [List.map_toArray, List.map_cons, List.map_nil]); first | done | rfl) ?_; (with_reducible refine (plist_Differ.calls k (fun k_ => k_ < w.heap.size) _ _ l0 (fun k_ => k_ < w.heap.size) _ _ l1 t362 t363 t364 t365 _ ?side1 ?side2 A4.out).mono ?_); (case side1 => exact Kd.V_mk aq.out (Kd.F_below (Kd.C_F k26_heap ap.out) (by repeat (first | (with_reducible first | exact HB.out | apply below_alloc | apply pw_below_drewN | apply below_drew1 | refine below_set ?_ ac.out) | exact HB.out)))); (case side2 => exact Kd.V_mk au.out (Kd.F_below (Kd.C_F k26_heap ar.out) (by repeat (first | (with_reducible first | exact HB.out | apply below_alloc | apply pw_below_drewN | apply below_drew1 | refine below_set ?_ ac.out) | exact HB.out)))); rintro e w8 ⟨rfl, hb⟩; refine ⟨_, rfl, ?_⟩; replace aa := Aside0.mk (kfb47.q aa.out hb rfl); replace HB := Aside0.mk (below_step (by repeat (first | (with_reducible first | exact HB.out | apply below_alloc | apply pw_below_drewN | apply below_drew1 | refine below_set ?_ ac.out) | exact HB.out)) hb); (try clear hb); (try clear al); (try clear hk); (try clear hi)) | ((with_reducible refine gate_dst (N := 7) rfl ?_); refine box_event ?hg (N := 7) ?hd (cs := #[.int .u32 0, .int .i64 0]) (t := 24) ?hr ?_; (case hd => rfl); (case hg => rfl); (case hr => first | (go_simp; done) | (go_simp; rfl)); intro aj hg w9 hbox hb; have n0_ := Aside0.mk (kfb47.q aa.out hb rfl); have n1_ := Aside0.mk (below_step (by repeat (first | (with_reducible first | exact HB.out | apply below_alloc | apply pw_below_drewN | apply below_drew1 | refine below_set ?_ ac.out) | exact HB.out)) hb); have n2_ := Aside0.mk (hbox); have n3_ := Aside0.mk ((by rw [hg]; exact (below_size (by repeat (first | (with_reducible first | exact HB.out | apply below_alloc | apply pw_below_drewN | apply below_drew1 | refine below_set ?_ ac.out) | exact HB.out))) : w.heap.size ≤ aj)); have n4_ := Aside0.mk ((by rw [hg]; exact (below_size (by repeat (first | (with_reducible first | exact HB.out | apply below_alloc | apply pw_below_drewN | apply below_drew1 | refine below_set ?_ ac.out) | exact HB.out))) : w.heap.size ≤ aj)); have n5_ := Aside0.mk ((by rw [hg]; exact Nat.ne_of_lt (blk_lt (g := ae) (o := .cells #[.int .u32 ah, .int .i64 ad] 24 (0, 0)) (by (with_reducible repeat (first | refine blk_drewN ?_ _ | refine blk_drew ?_ | refine blk_alloc ?_ _)); exact aa.out)) : ae ≠ aj)); have n6_ := Aside0.mk ((by rw [hg]; exact Nat.ne_of_gt (blk_lt (g := ae) (o := .cells #[.int .u32 ah, .int .i64 ad] 24 (0, 0)) (by (with_reducible repeat (first | refine blk_drewN ?_ _ | refine blk_drew ?_ | refine blk_alloc ?_ _)); exact aa.out)) : aj ≠ ae)); clear aa; clear HB; have aa := n0_; have HB := n1_; have ab := n2_; have GW366 := n3_; have af := n4_; have ag := n5_; have ai := n6_; clear n0_ n1_ n2_ n3_ n4_ n5_ n6_; clear hb hbox hg; have hnb10 := ai.out; have hnc10 := ag.out; have hcz11_0 : w9.cell? ⟨aj, 0, none⟩ = some (.int .u32 0) := (blk_cell ab.out 0).trans rfl; have hcz11_1 : w9.cell? ⟨aj, 1, none⟩ = some (.int .i64 0) := (blk_cell ab.out 1).trans rfl; have hfz11_0 := blk_frozen ab.out 0; have hfz11_1 := blk_frozen ab.out 1) | ((with_reducible refine gate_callee (f := 16) rfl ?_); refine goesL_ (some 27) rfl rfl Try.func16 (by kernel_rfl) rfl #[.slice A0 l0.length c0] rfl (by (try simp only [List.map_toArray, List.map_cons, List.map_nil]); first | done | rfl) ?_; (with_reducible refine (whirligigref02_Why.calls k _ _ l0 t367 _ ?side1 ?side2 A5.out).mono ?_); (case side1 => exact Kd.C_below ap.out (by repeat (first | (with_reducible first | exact HB.out | apply below_alloc | apply pw_below_drewN | apply below_drew1 | refine below_set ?_ ac.out | refine below_set ?_ af.out) | exact HB.out))); (case side2 => exact aq.out); rintro e w12 ⟨rfl, hb⟩; refine ⟨_, rfl, ?_⟩; replace aa := Aside0.mk (blk_below (g := ae) (o := .cells #[.int .u32 ah, .int .i64 ad] 24 (0, 0)) (by (with_reducible repeat (first | refine blk_drewN ?_ _ | refine blk_drew ?_ | refine blk_alloc ?_ _)); refine blk_far ?_ ag.out _; (with_reducible repeat (first | refine blk_drewN ?_ _ | refine blk_drew ?_ | refine blk_alloc ?_ _)); refine blk_far ?_ ag.out _; (with_reducible repeat (first | refine blk_drewN ?_ _ | refine blk_drew ?_ | refine blk_alloc ?_ _)); exact aa.out) hb); replace ab := Aside0.mk (blk_below (g := aj) (o := .cells #[.int .u32 t362, .int .i64 t363] 24 (0, 0)) (by (with_reducible repeat (first | refine blk_drewN ?_ _ | refine blk_drew ?_ | refine blk_alloc ?_ _)); refine blk_put (cs := #[.int .u32 t362, .int .i64 0]) ?_ 1 _ (by first | rfl | (simp; done) | (simp; omega)); (with_reducible repeat (first | refine blk_drewN ?_ _ | refine blk_drew ?_ | refine blk_alloc ?_ _)); refine blk_put (cs := #[.int .u32 0, .int .i64 0]) ?_ 0 _ (by first | rfl | (simp; done) | (simp; omega)); (with_reducible repeat (first | refine blk_drewN ?_ _ | refine blk_drew ?_ | refine blk_alloc ?_ _)); exact ab.out) hb); replace HB := Aside0.mk (below_step (by repeat (first | (with_reducible first | exact HB.out | apply below_alloc | apply pw_below_drewN | apply below_drew1 | refine below_set ?_ ac.out | refine below_set ?_ af.out) | exact HB.out)) hb); (try clear hb); (try clear al); (try clear hk); (try clear hi)))
 (try simp only [Act.put, List.setIfInBounds_toArray, List.set_cons_zero, List.set_cons_succ])
 go_cut [10] (fun v10 wc => ∃ (kq : Nat) (x10_5 : Int), v10 = .int .i64 x10_5 ∧ Aside0 (whirligiglaw02_PlistDiffers.j0 kq l0 l1 t364 t365 x10_5 ah ad t362 t363 = some r) ∧ Aside0 (kq ≤ k) ∧ Aside0 (wc.heap[ae]? = some (.cells #[.int .u32 ah, .int .i64 ad] 24 (0, 0))) ∧ Aside0 (wc.heap[aj]? = some (.cells #[.int .u32 t362, .int .i64 t363] 24 (0, 0))) ∧ Aside0 (Below w.heap.size w wc))
 case first =>
  have H := HC6.out
  clear HC6
  by_cases av : t367 = 0
  ·rw [if_pos av] at H
   have c13b0 : (t367 == 0) = true := beq_iff_eq.mpr av
   have c13b1 : (t367 != 0) = false := bne_eq_false_iff_eq.mpr av
   clear av
   (first | rw [c13b0] | (simp only [i64_w]; rw [c13b0]) | skip)
   replace H := Option.bind_eq_some_iff.mp H
   obtain ⟨t368, A140, H⟩ := H
   replace H : (whirligiglaw02_PlistDiffers.j0 k l0 l1 t364 t365 t368 ah ad t362 t363) = some r := H
   have A14 := Aside0.mk A140
   clear A140
   have H' := Aside0.mk H
   clear H
   go_wp2_with (first | ((with_reducible refine gate_callee (f := 16) rfl ?_); refine goesL_ (some 31) rfl rfl Try.func16 (by kernel_rfl) rfl #[.slice A1 l1.length c1] rfl (by (try simp only [List.map_toArray, List.map_cons, List.map_nil]); first | done | rfl) ?_; (with_reducible refine (whirligigref02_Why.calls k _ _ l1 t368 _ ?side1 ?side2 A14.out).mono ?_); (case side1 => repeat (first | exact (Kd.C_below ar.out HB.out) | (with_reducible refine Kd.C_alloc ?_ _) | (with_reducible refine Kd.C_drewN ?_ _) | (with_reducible refine Kd.C_drew ?_))); (case side2 => exact au.out); rintro e w15 ⟨rfl, hb⟩; refine ⟨_, rfl, ?_⟩; replace aa := Aside0.mk (kfb47.q aa.out hb rfl); replace ab := Aside0.mk (kfb47.q ab.out hb rfl); replace HB := Aside0.mk (below_step (by repeat (first | (with_reducible first | exact HB.out | apply below_alloc | apply pw_below_drewN | apply below_drew1 | refine below_set ?_ ac.out | refine below_set ?_ af.out) | exact HB.out)) hb); (try clear hb); (try clear al); (try clear hk); (try clear hi)))
   go_meet
   case rel => exact ⟨_, (t368), (by first | rfl | (simp; done) | (simp [*]; done)), H', ⟨by first | omega | exact Nat.le_refl _⟩, ⟨by (with_reducible repeat (first | refine blk_drewN ?_ _ | refine blk_drew ?_ | refine blk_alloc ?_ _)); exact aa.out⟩, ⟨by (with_reducible repeat (first | refine blk_drewN ?_ _ | refine blk_drew ?_ | refine blk_alloc ?_ _)); exact ab.out⟩, ⟨by repeat (first | (with_reducible first | exact HB.out | apply below_alloc | apply pw_below_drewN | apply below_drew1 | refine below_set ?_ ac.out | refine below_set ?_ af.out) | exact HB.out)⟩⟩
  ·rw [if_neg av] at H
   have c13b0 : (t367 == 0) = false := beq_eq_false_iff_ne.mpr av
   have c13b1 : (t367 != 0) = true := bne_iff_ne.mpr av
   (first | rw [c13b0] | (simp only [i64_w]; rw [c13b0]) | skip)
   have H' := Aside0.mk H
   clear H
   go_wp2
   go_meet
   case rel => exact ⟨_, (t367), (by first | rfl | (simp; done) | (simp [*]; done)), H', ⟨by first | omega | exact Nat.le_refl _⟩, ⟨by (with_reducible repeat (first | refine blk_drewN ?_ _ | refine blk_drew ?_ | refine blk_alloc ?_ _)); exact aa.out⟩, ⟨by (with_reducible repeat (first | refine blk_drewN ?_ _ | refine blk_drew ?_ | refine blk_alloc ?_ _)); exact ab.out⟩, ⟨by repeat (first | (with_reducible first | exact HB.out | apply below_alloc | apply pw_below_drewN | apply below_drew1 | refine below_set ?_ ac.out | refine below_set ?_ af.out) | exact HB.out)⟩⟩
 case rest =>
  clear HC6
  try clear c1
  try clear c2
  try clear p2
  try clear c8
  try clear c10
  try clear av
  try clear c13b0
  try clear c13b1
  try clear hcz11_0
  try clear hcz11_1
  try clear hfz11_0
  try clear hfz11_1
  obtain ⟨kq, x10_5, rfl, HA, HJ5, aa, ab, HB⟩ := hcut
  cases kq with
  | zero => exact absurd HA.out (by simp [whirligiglaw02_PlistDiffers.j0])
  | succ aw =>
   have H := HA.out
   clear HA
   simp only [whirligiglaw02_PlistDiffers.j0] at H
   by_cases ax : x10_5 = 0
   ·rw [if_pos ax] at H
    have c16b0 : (x10_5 == 0) = true := beq_iff_eq.mpr ax
    have c16b1 : (x10_5 != 0) = false := bne_eq_false_iff_eq.mpr ax
    clear ax
    replace H := Option.bind_eq_some_iff.mp H
    obtain ⟨⟨t370, t371⟩, A170, H⟩ := H
    (try dsimp only at H)
    have A17 := Aside0.mk A170
    clear A170
    replace H := Option.bind_eq_some_iff.mp H
    obtain ⟨⟨t372, t373⟩, A180, H⟩ := H
    (try dsimp only at H)
    have A18 := Aside0.mk A180
    clear A180
    have HC19 := Aside0.mk H
    clear H
    have hnb20 := ai.out
    have hnc20 := ag.out
    have hcz21_0 : wc.cell? ⟨aj, 0, none⟩ = some (.int .u32 t362) := (blk_cell ab.out 0).trans rfl
    have hcz21_1 : wc.cell? ⟨aj, 1, none⟩ = some (.int .i64 t363) := (blk_cell ab.out 1).trans rfl
    have hfz21_0 := blk_frozen ab.out 0
    have hfz21_1 := blk_frozen ab.out 1
    go_upto_region 9 with (first | ((with_reducible refine gate_callee (f := 14) rfl ?_); refine goesL_ (some 52) rfl rfl Try.func14 (by kernel_rfl) rfl #[.slice A0 l0.length c0, .agg #[.int .u32 t362, .int .i64 t363]] rfl (by (try simp only [List.map_toArray, List.map_cons, List.map_nil]); first | done | rfl) ?_; (with_reducible refine (whirligigref02_Lets.calls aw _ _ l0 t362 t363 t370 t371 _ ?side1 ?side2 A17.out).mono ?_); (case side1 => repeat (first | exact (Kd.C_below ap.out HB.out) | (with_reducible refine Kd.C_alloc ?_ _) | (with_reducible refine Kd.C_drewN ?_ _) | (with_reducible refine Kd.C_drew ?_))); (case side2 => exact aq.out); rintro e w22 ⟨rfl, hb⟩; refine ⟨_, rfl, ?_⟩; replace aa := Aside0.mk (kfb47.q aa.out hb rfl); replace ab := Aside0.mk (kfb47.q ab.out hb rfl); replace HB := Aside0.mk (below_step (by repeat (first | (with_reducible first | exact HB.out | apply below_alloc | apply pw_below_drewN | apply below_drew1 | refine below_set ?_ ac.out | refine below_set ?_ af.out) | exact HB.out)) hb); (try clear hb); (try clear al); (try clear hk); (try clear hi); have hcz23_0 : w22.cell? ⟨aj, 0, none⟩ = some (.int .u32 t362) := (blk_cell ab.out 0).trans rfl; have hcz23_1 : w22.cell? ⟨aj, 1, none⟩ = some (.int .i64 t363) := (blk_cell ab.out 1).trans rfl; have hfz23_0 := blk_frozen ab.out 0; have hfz23_1 := blk_frozen ab.out 1) | ((with_reducible refine gate_callee (f := 14) rfl ?_); refine goesL_ (some 58) rfl rfl Try.func14 (by kernel_rfl) rfl #[.slice A1 l1.length c1, .agg #[.int .u32 t362, .int .i64 t363]] rfl (by (try simp only [List.map_toArray, List.map_cons, List.map_nil]); first | done | rfl) ?_; (with_reducible refine (whirligigref02_Lets.calls aw _ _ l1 t362 t363 t372 t373 _ ?side1 ?side2 A18.out).mono ?_); (case side1 => repeat (first | exact (Kd.C_below ar.out HB.out) | (with_reducible refine Kd.C_alloc ?_ _) | (with_reducible refine Kd.C_drewN ?_ _) | (with_reducible refine Kd.C_drew ?_))); (case side2 => exact au.out); rintro e w24 ⟨rfl, hb⟩; refine ⟨_, rfl, ?_⟩; replace aa := Aside0.mk (kfb47.q aa.out hb rfl); replace ab := Aside0.mk (kfb47.q ab.out hb rfl); replace HB := Aside0.mk (below_step (by repeat (first | (with_reducible first | exact HB.out | apply below_alloc | apply pw_below_drewN | apply below_drew1 | refine below_set ?_ ac.out | refine below_set ?_ af.out) | exact HB.out)) hb); (try clear hb); (try clear al); (try clear hk); (try clear hi)))
    (try simp only [Act.put, List.setIfInBounds_toArray, List.set_cons_zero, List.set_cons_succ])
    go_cut [81] (fun v81 wc => ∃ (kq : Nat) (x81_18 : Bool), v81 = .bool x81_18 ∧ Aside0 (whirligiglaw02_PlistDiffers.j1 kq l0 l1 t364 x81_18 ah ad t362 t363 = some r) ∧ Aside0 (kq ≤ aw) ∧ Aside0 (wc.heap[ae]? = some (.cells #[.int .u32 ah, .int .i64 ad] 24 (0, 0))) ∧ Aside0 (wc.heap[aj]? = some (.cells #[.int .u32 t362, .int .i64 t363] 24 (0, 0))) ∧ Aside0 (Below w.heap.size w wc))
    case first =>
     have H := HC19.out
     clear HC19
     by_cases ay : t365 = 0
     ·rw [if_pos ay] at H
      have c25b0 : (t365 == 0) = true := beq_iff_eq.mpr ay
      have c25b1 : (t365 != 0) = false := bne_eq_false_iff_eq.mpr ay
      clear ay
      (first | rw [c25b0] | (simp only [i64_w]; rw [c25b0]) | skip)
      by_cases am : (t364 != (t370 != t372)) = true
      ·rw [if_pos am] at H
       have c26b0 : (t364 != (t370 != t372)) = true := am
       (try (have c26b1 : decide (t364 = (t370 != t372)) = false := by simpa using am))
       (try (have c26b2 : (t364 == (t370 != t372)) = false := by simpa using am))
       (try (have c26b3 : ¬ (t364 = (t370 != t372)) := by simpa using am))
       clear am
       by_cases c27 : t364 = true
       ·subst c27
        have H1 : (whirligiglaw02_PlistDiffers.j1 aw l0 l1 true true ah ad t362 t363) = some r := by rw [if_pos rfl] at H; exact H
        clear H
        have H := H1
        clear H1
        have H' := Aside0.mk H
        clear H
        (try (have z_c26 : (t370 == t372) = true := (show ∀ x y : Bool, (true != (x != y)) = true → (x == y) = true by decide) _ _ c26b0; have y_c26 : decide (t370 = t372) = true := (show ∀ x y : Bool, (true != (x != y)) = true → decide (x = y) = true by decide) _ _ c26b0; have x_c26 : (t370 = t372) = True := eq_true ((show ∀ x y : Bool, (true != (x != y)) = true → x = y by decide) _ _ c26b0); have w_c26 : (t370 != t372) = false := (show ∀ x y : Bool, (true != (x != y)) = true → (x != y) = false by decide) _ _ c26b0))
        (try (have z_c26 : (t370 == t372) = false := (show ∀ x y : Bool, (true != (x != y)) = false → (x == y) = false by decide) _ _ c26b0; have y_c26 : decide (t370 = t372) = false := (show ∀ x y : Bool, (true != (x != y)) = false → decide (x = y) = false by decide) _ _ c26b0; have x_c26 : (t370 = t372) = False := eq_false ((show ∀ x y : Bool, (true != (x != y)) = false → ¬ x = y by decide) _ _ c26b0); have w_c26 : (t370 != t372) = true := (show ∀ x y : Bool, (true != (x != y)) = false → (x != y) = true by decide) _ _ c26b0))
        (try (have z_c26 : (t370 == t372) = false := (show ∀ x y : Bool, (false != (x != y)) = true → (x == y) = false by decide) _ _ c26b0; have y_c26 : decide (t370 = t372) = false := (show ∀ x y : Bool, (false != (x != y)) = true → decide (x = y) = false by decide) _ _ c26b0; have x_c26 : (t370 = t372) = False := eq_false ((show ∀ x y : Bool, (false != (x != y)) = true → ¬ x = y by decide) _ _ c26b0); have w_c26 : (t370 != t372) = true := (show ∀ x y : Bool, (false != (x != y)) = true → (x != y) = true by decide) _ _ c26b0))
        (try (have z_c26 : (t370 == t372) = true := (show ∀ x y : Bool, (false != (x != y)) = false → (x == y) = true by decide) _ _ c26b0; have y_c26 : decide (t370 = t372) = true := (show ∀ x y : Bool, (false != (x != y)) = false → decide (x = y) = true by decide) _ _ c26b0; have x_c26 : (t370 = t372) = True := eq_true ((show ∀ x y : Bool, (false != (x != y)) = false → x = y by decide) _ _ c26b0); have w_c26 : (t370 != t372) = false := (show ∀ x y : Bool, (false != (x != y)) = false → (x != y) = false by decide) _ _ c26b0))
        go_wp2
        go_meet
        case rel => exact ⟨_, (true), (by first | rfl | (simp; done) | (simp [*]; done)), H', ⟨by have := HJ5.out; first | omega | exact Nat.le_refl _⟩, ⟨by (with_reducible repeat (first | refine blk_drewN ?_ _ | refine blk_drew ?_ | refine blk_alloc ?_ _)); exact aa.out⟩, ⟨by (with_reducible repeat (first | refine blk_drewN ?_ _ | refine blk_drew ?_ | refine blk_alloc ?_ _)); exact ab.out⟩, ⟨by repeat (first | (with_reducible first | exact HB.out | apply below_alloc | apply pw_below_drewN | apply below_drew1 | refine below_set ?_ ac.out | refine below_set ?_ af.out) | exact HB.out)⟩⟩
       ·replace c27 := Bool.eq_false_iff.mpr c27
        subst c27
        have H1 : (whirligiglaw02_PlistDiffers.j1 aw l0 l1 false (!(t362 == 0) || (!(t363 == 0))) ah ad t362 t363) = some r := by rw [if_neg (show ¬ (false = true) by decide)] at H; exact H
        clear H
        have H := H1
        clear H1
        have H' := Aside0.mk H
        clear H
        have hnb28 := ai.out
        have hnc28 := ag.out
        have hcz29_0 : w24.cell? ⟨aj, 0, none⟩ = some (.int .u32 t362) := (blk_cell ab.out 0).trans rfl
        have hcz29_1 : w24.cell? ⟨aj, 1, none⟩ = some (.int .i64 t363) := (blk_cell ab.out 1).trans rfl
        have hfz29_0 := blk_frozen ab.out 0
        have hfz29_1 := blk_frozen ab.out 1
        (try (have z_c26 : (t370 == t372) = true := (show ∀ x y : Bool, (true != (x != y)) = true → (x == y) = true by decide) _ _ c26b0; have y_c26 : decide (t370 = t372) = true := (show ∀ x y : Bool, (true != (x != y)) = true → decide (x = y) = true by decide) _ _ c26b0; have x_c26 : (t370 = t372) = True := eq_true ((show ∀ x y : Bool, (true != (x != y)) = true → x = y by decide) _ _ c26b0); have w_c26 : (t370 != t372) = false := (show ∀ x y : Bool, (true != (x != y)) = true → (x != y) = false by decide) _ _ c26b0))
        (try (have z_c26 : (t370 == t372) = false := (show ∀ x y : Bool, (true != (x != y)) = false → (x == y) = false by decide) _ _ c26b0; have y_c26 : decide (t370 = t372) = false := (show ∀ x y : Bool, (true != (x != y)) = false → decide (x = y) = false by decide) _ _ c26b0; have x_c26 : (t370 = t372) = False := eq_false ((show ∀ x y : Bool, (true != (x != y)) = false → ¬ x = y by decide) _ _ c26b0); have w_c26 : (t370 != t372) = true := (show ∀ x y : Bool, (true != (x != y)) = false → (x != y) = true by decide) _ _ c26b0))
        (try (have z_c26 : (t370 == t372) = false := (show ∀ x y : Bool, (false != (x != y)) = true → (x == y) = false by decide) _ _ c26b0; have y_c26 : decide (t370 = t372) = false := (show ∀ x y : Bool, (false != (x != y)) = true → decide (x = y) = false by decide) _ _ c26b0; have x_c26 : (t370 = t372) = False := eq_false ((show ∀ x y : Bool, (false != (x != y)) = true → ¬ x = y by decide) _ _ c26b0); have w_c26 : (t370 != t372) = true := (show ∀ x y : Bool, (false != (x != y)) = true → (x != y) = true by decide) _ _ c26b0))
        (try (have z_c26 : (t370 == t372) = true := (show ∀ x y : Bool, (false != (x != y)) = false → (x == y) = true by decide) _ _ c26b0; have y_c26 : decide (t370 = t372) = true := (show ∀ x y : Bool, (false != (x != y)) = false → decide (x = y) = true by decide) _ _ c26b0; have x_c26 : (t370 = t372) = True := eq_true ((show ∀ x y : Bool, (false != (x != y)) = false → x = y by decide) _ _ c26b0); have w_c26 : (t370 != t372) = false := (show ∀ x y : Bool, (false != (x != y)) = false → (x != y) = false by decide) _ _ c26b0))
        go_wp2
        go_meet
        case rel => exact ⟨_, ((!(t362 == 0) || (!(t363 == 0)))), (by first | rfl | (simp; done) | (simp [*]; done)), H', ⟨by have := HJ5.out; first | omega | exact Nat.le_refl _⟩, ⟨by (with_reducible repeat (first | refine blk_drewN ?_ _ | refine blk_drew ?_ | refine blk_alloc ?_ _)); exact aa.out⟩, ⟨by (with_reducible repeat (first | refine blk_drewN ?_ _ | refine blk_drew ?_ | refine blk_alloc ?_ _)); exact ab.out⟩, ⟨by repeat (first | (with_reducible first | exact HB.out | apply below_alloc | apply pw_below_drewN | apply below_drew1 | refine below_set ?_ ac.out | refine below_set ?_ af.out) | exact HB.out)⟩⟩
      ·rw [if_neg am] at H
       have c26b0 : (t364 != (t370 != t372)) = false := by simpa using am
       (try (have c26b1 : decide (t364 = (t370 != t372)) = true := by simpa using am))
       (try (have c26b2 : (t364 == (t370 != t372)) = true := by simpa using am))
       clear am
       by_cases c30 : t364 = true
       ·subst c30
        have H1 : (whirligiglaw02_PlistDiffers.j1 aw l0 l1 true false ah ad t362 t363) = some r := by rw [if_pos rfl] at H; exact H
        clear H
        have H := H1
        clear H1
        have H' := Aside0.mk H
        clear H
        (try (have z_c26 : (t370 == t372) = true := (show ∀ x y : Bool, (true != (x != y)) = true → (x == y) = true by decide) _ _ c26b0; have y_c26 : decide (t370 = t372) = true := (show ∀ x y : Bool, (true != (x != y)) = true → decide (x = y) = true by decide) _ _ c26b0; have x_c26 : (t370 = t372) = True := eq_true ((show ∀ x y : Bool, (true != (x != y)) = true → x = y by decide) _ _ c26b0); have w_c26 : (t370 != t372) = false := (show ∀ x y : Bool, (true != (x != y)) = true → (x != y) = false by decide) _ _ c26b0))
        (try (have z_c26 : (t370 == t372) = false := (show ∀ x y : Bool, (true != (x != y)) = false → (x == y) = false by decide) _ _ c26b0; have y_c26 : decide (t370 = t372) = false := (show ∀ x y : Bool, (true != (x != y)) = false → decide (x = y) = false by decide) _ _ c26b0; have x_c26 : (t370 = t372) = False := eq_false ((show ∀ x y : Bool, (true != (x != y)) = false → ¬ x = y by decide) _ _ c26b0); have w_c26 : (t370 != t372) = true := (show ∀ x y : Bool, (true != (x != y)) = false → (x != y) = true by decide) _ _ c26b0))
        (try (have z_c26 : (t370 == t372) = false := (show ∀ x y : Bool, (false != (x != y)) = true → (x == y) = false by decide) _ _ c26b0; have y_c26 : decide (t370 = t372) = false := (show ∀ x y : Bool, (false != (x != y)) = true → decide (x = y) = false by decide) _ _ c26b0; have x_c26 : (t370 = t372) = False := eq_false ((show ∀ x y : Bool, (false != (x != y)) = true → ¬ x = y by decide) _ _ c26b0); have w_c26 : (t370 != t372) = true := (show ∀ x y : Bool, (false != (x != y)) = true → (x != y) = true by decide) _ _ c26b0))
        (try (have z_c26 : (t370 == t372) = true := (show ∀ x y : Bool, (false != (x != y)) = false → (x == y) = true by decide) _ _ c26b0; have y_c26 : decide (t370 = t372) = true := (show ∀ x y : Bool, (false != (x != y)) = false → decide (x = y) = true by decide) _ _ c26b0; have x_c26 : (t370 = t372) = True := eq_true ((show ∀ x y : Bool, (false != (x != y)) = false → x = y by decide) _ _ c26b0); have w_c26 : (t370 != t372) = false := (show ∀ x y : Bool, (false != (x != y)) = false → (x != y) = false by decide) _ _ c26b0))
        (try (have z_c26 : (t370 == t372) = true := (show ∀ x y : Bool, (true != (x != y)) = true → (x == y) = true by decide) _ _ c26b0; have y_c26 : decide (t370 = t372) = true := (show ∀ x y : Bool, (true != (x != y)) = true → decide (x = y) = true by decide) _ _ c26b0; have x_c26 : (t370 = t372) = True := eq_true ((show ∀ x y : Bool, (true != (x != y)) = true → x = y by decide) _ _ c26b0); have w_c26 : (t370 != t372) = false := (show ∀ x y : Bool, (true != (x != y)) = true → (x != y) = false by decide) _ _ c26b0))
        (try (have z_c26 : (t370 == t372) = false := (show ∀ x y : Bool, (true != (x != y)) = false → (x == y) = false by decide) _ _ c26b0; have y_c26 : decide (t370 = t372) = false := (show ∀ x y : Bool, (true != (x != y)) = false → decide (x = y) = false by decide) _ _ c26b0; have x_c26 : (t370 = t372) = False := eq_false ((show ∀ x y : Bool, (true != (x != y)) = false → ¬ x = y by decide) _ _ c26b0); have w_c26 : (t370 != t372) = true := (show ∀ x y : Bool, (true != (x != y)) = false → (x != y) = true by decide) _ _ c26b0))
        (try (have z_c26 : (t370 == t372) = false := (show ∀ x y : Bool, (false != (x != y)) = true → (x == y) = false by decide) _ _ c26b0; have y_c26 : decide (t370 = t372) = false := (show ∀ x y : Bool, (false != (x != y)) = true → decide (x = y) = false by decide) _ _ c26b0; have x_c26 : (t370 = t372) = False := eq_false ((show ∀ x y : Bool, (false != (x != y)) = true → ¬ x = y by decide) _ _ c26b0); have w_c26 : (t370 != t372) = true := (show ∀ x y : Bool, (false != (x != y)) = true → (x != y) = true by decide) _ _ c26b0))
        (try (have z_c26 : (t370 == t372) = true := (show ∀ x y : Bool, (false != (x != y)) = false → (x == y) = true by decide) _ _ c26b0; have y_c26 : decide (t370 = t372) = true := (show ∀ x y : Bool, (false != (x != y)) = false → decide (x = y) = true by decide) _ _ c26b0; have x_c26 : (t370 = t372) = True := eq_true ((show ∀ x y : Bool, (false != (x != y)) = false → x = y by decide) _ _ c26b0); have w_c26 : (t370 != t372) = false := (show ∀ x y : Bool, (false != (x != y)) = false → (x != y) = false by decide) _ _ c26b0))
        go_wp2
        go_meet
        case rel => exact ⟨_, (false), (by first | rfl | (simp; done) | (simp [*]; done)), H', ⟨by have := HJ5.out; first | omega | exact Nat.le_refl _⟩, ⟨by (with_reducible repeat (first | refine blk_drewN ?_ _ | refine blk_drew ?_ | refine blk_alloc ?_ _)); exact aa.out⟩, ⟨by (with_reducible repeat (first | refine blk_drewN ?_ _ | refine blk_drew ?_ | refine blk_alloc ?_ _)); exact ab.out⟩, ⟨by repeat (first | (with_reducible first | exact HB.out | apply below_alloc | apply pw_below_drewN | apply below_drew1 | refine below_set ?_ ac.out | refine below_set ?_ af.out) | exact HB.out)⟩⟩
       ·replace c30 := Bool.eq_false_iff.mpr c30
        subst c30
        have H1 : (whirligiglaw02_PlistDiffers.j1 aw l0 l1 false (!(t362 == 0) || (!(t363 == 0))) ah ad t362 t363) = some r := by rw [if_neg (show ¬ (false = true) by decide)] at H; exact H
        clear H
        have H := H1
        clear H1
        have H' := Aside0.mk H
        clear H
        have hnb31 := ai.out
        have hnc31 := ag.out
        have hcz32_0 : w24.cell? ⟨aj, 0, none⟩ = some (.int .u32 t362) := (blk_cell ab.out 0).trans rfl
        have hcz32_1 : w24.cell? ⟨aj, 1, none⟩ = some (.int .i64 t363) := (blk_cell ab.out 1).trans rfl
        have hfz32_0 := blk_frozen ab.out 0
        have hfz32_1 := blk_frozen ab.out 1
        (try (have z_c26 : (t370 == t372) = true := (show ∀ x y : Bool, (true != (x != y)) = true → (x == y) = true by decide) _ _ c26b0; have y_c26 : decide (t370 = t372) = true := (show ∀ x y : Bool, (true != (x != y)) = true → decide (x = y) = true by decide) _ _ c26b0; have x_c26 : (t370 = t372) = True := eq_true ((show ∀ x y : Bool, (true != (x != y)) = true → x = y by decide) _ _ c26b0); have w_c26 : (t370 != t372) = false := (show ∀ x y : Bool, (true != (x != y)) = true → (x != y) = false by decide) _ _ c26b0))
        (try (have z_c26 : (t370 == t372) = false := (show ∀ x y : Bool, (true != (x != y)) = false → (x == y) = false by decide) _ _ c26b0; have y_c26 : decide (t370 = t372) = false := (show ∀ x y : Bool, (true != (x != y)) = false → decide (x = y) = false by decide) _ _ c26b0; have x_c26 : (t370 = t372) = False := eq_false ((show ∀ x y : Bool, (true != (x != y)) = false → ¬ x = y by decide) _ _ c26b0); have w_c26 : (t370 != t372) = true := (show ∀ x y : Bool, (true != (x != y)) = false → (x != y) = true by decide) _ _ c26b0))
        (try (have z_c26 : (t370 == t372) = false := (show ∀ x y : Bool, (false != (x != y)) = true → (x == y) = false by decide) _ _ c26b0; have y_c26 : decide (t370 = t372) = false := (show ∀ x y : Bool, (false != (x != y)) = true → decide (x = y) = false by decide) _ _ c26b0; have x_c26 : (t370 = t372) = False := eq_false ((show ∀ x y : Bool, (false != (x != y)) = true → ¬ x = y by decide) _ _ c26b0); have w_c26 : (t370 != t372) = true := (show ∀ x y : Bool, (false != (x != y)) = true → (x != y) = true by decide) _ _ c26b0))
        (try (have z_c26 : (t370 == t372) = true := (show ∀ x y : Bool, (false != (x != y)) = false → (x == y) = true by decide) _ _ c26b0; have y_c26 : decide (t370 = t372) = true := (show ∀ x y : Bool, (false != (x != y)) = false → decide (x = y) = true by decide) _ _ c26b0; have x_c26 : (t370 = t372) = True := eq_true ((show ∀ x y : Bool, (false != (x != y)) = false → x = y by decide) _ _ c26b0); have w_c26 : (t370 != t372) = false := (show ∀ x y : Bool, (false != (x != y)) = false → (x != y) = false by decide) _ _ c26b0))
        (try (have z_c26 : (t370 == t372) = true := (show ∀ x y : Bool, (true != (x != y)) = true → (x == y) = true by decide) _ _ c26b0; have y_c26 : decide (t370 = t372) = true := (show ∀ x y : Bool, (true != (x != y)) = true → decide (x = y) = true by decide) _ _ c26b0; have x_c26 : (t370 = t372) = True := eq_true ((show ∀ x y : Bool, (true != (x != y)) = true → x = y by decide) _ _ c26b0); have w_c26 : (t370 != t372) = false := (show ∀ x y : Bool, (true != (x != y)) = true → (x != y) = false by decide) _ _ c26b0))
        (try (have z_c26 : (t370 == t372) = false := (show ∀ x y : Bool, (true != (x != y)) = false → (x == y) = false by decide) _ _ c26b0; have y_c26 : decide (t370 = t372) = false := (show ∀ x y : Bool, (true != (x != y)) = false → decide (x = y) = false by decide) _ _ c26b0; have x_c26 : (t370 = t372) = False := eq_false ((show ∀ x y : Bool, (true != (x != y)) = false → ¬ x = y by decide) _ _ c26b0); have w_c26 : (t370 != t372) = true := (show ∀ x y : Bool, (true != (x != y)) = false → (x != y) = true by decide) _ _ c26b0))
        (try (have z_c26 : (t370 == t372) = false := (show ∀ x y : Bool, (false != (x != y)) = true → (x == y) = false by decide) _ _ c26b0; have y_c26 : decide (t370 = t372) = false := (show ∀ x y : Bool, (false != (x != y)) = true → decide (x = y) = false by decide) _ _ c26b0; have x_c26 : (t370 = t372) = False := eq_false ((show ∀ x y : Bool, (false != (x != y)) = true → ¬ x = y by decide) _ _ c26b0); have w_c26 : (t370 != t372) = true := (show ∀ x y : Bool, (false != (x != y)) = true → (x != y) = true by decide) _ _ c26b0))
        (try (have z_c26 : (t370 == t372) = true := (show ∀ x y : Bool, (false != (x != y)) = false → (x == y) = true by decide) _ _ c26b0; have y_c26 : decide (t370 = t372) = true := (show ∀ x y : Bool, (false != (x != y)) = false → decide (x = y) = true by decide) _ _ c26b0; have x_c26 : (t370 = t372) = True := eq_true ((show ∀ x y : Bool, (false != (x != y)) = false → x = y by decide) _ _ c26b0); have w_c26 : (t370 != t372) = false := (show ∀ x y : Bool, (false != (x != y)) = false → (x != y) = false by decide) _ _ c26b0))
        go_wp2
        go_meet
        case rel => exact ⟨_, ((!(t362 == 0) || (!(t363 == 0)))), (by first | rfl | (simp; done) | (simp [*]; done)), H', ⟨by have := HJ5.out; first | omega | exact Nat.le_refl _⟩, ⟨by (with_reducible repeat (first | refine blk_drewN ?_ _ | refine blk_drew ?_ | refine blk_alloc ?_ _)); exact aa.out⟩, ⟨by (with_reducible repeat (first | refine blk_drewN ?_ _ | refine blk_drew ?_ | refine blk_alloc ?_ _)); exact ab.out⟩, ⟨by repeat (first | (with_reducible first | exact HB.out | apply below_alloc | apply pw_below_drewN | apply below_drew1 | refine below_set ?_ ac.out | refine below_set ?_ af.out) | exact HB.out)⟩⟩
     ·rw [if_neg ay] at H
      have c25b0 : (t365 == 0) = false := beq_eq_false_iff_ne.mpr ay
      have c25b1 : (t365 != 0) = true := bne_iff_ne.mpr ay
      (first | rw [c25b0] | (simp only [i64_w]; rw [c25b0]) | skip)
      have H' := Aside0.mk H
      clear H
      go_wp2
      go_meet
      case rel => exact ⟨_, (true), (by first | rfl | (simp; done) | (simp [*]; done)), H', ⟨by have := HJ5.out; first | omega | exact Nat.le_refl _⟩, ⟨by (with_reducible repeat (first | refine blk_drewN ?_ _ | refine blk_drew ?_ | refine blk_alloc ?_ _)); exact aa.out⟩, ⟨by (with_reducible repeat (first | refine blk_drewN ?_ _ | refine blk_drew ?_ | refine blk_alloc ?_ _)); exact ab.out⟩, ⟨by repeat (first | (with_reducible first | exact HB.out | apply below_alloc | apply pw_below_drewN | apply below_drew1 | refine below_set ?_ ac.out | refine below_set ?_ af.out) | exact HB.out)⟩⟩
    case rest =>
     clear HC19
     try clear c1
     try clear c2
     try clear p2
     try clear c3
     try clear c8
     try clear c10
     try clear av
     try clear c13b0
     try clear c13b1
     try clear c14
     try clear ax
     try clear c16b0
     try clear c16b1
     try clear c20
     try clear ay
     try clear c25b0
     try clear c25b1
     try clear am
     try clear c26b0
     try clear c26b1
     try clear c26b2
     try clear c27
     try clear c28
     try clear c30
     try clear c31
     try clear hcz11_0
     try clear hcz11_1
     try clear hcz21_0
     try clear hcz21_1
     try clear hcz23_0
     try clear hcz23_1
     try clear hcz29_0
     try clear hcz29_1
     try clear hcz32_0
     try clear hcz32_1
     try clear hfz11_0
     try clear hfz11_1
     try clear hfz21_0
     try clear hfz21_1
     try clear hfz23_0
     try clear hfz23_1
     try clear hfz29_0
     try clear hfz29_1
     try clear hfz32_0
     try clear hfz32_1
     try clear p2
     obtain ⟨kq, x81_18, rfl, HA, HJ18, aa, ab, HB⟩ := hcut
     cases kq with
     | zero => exact absurd HA.out (by simp [whirligiglaw02_PlistDiffers.j1])
     | succ ak =>
      have H := HA.out
      clear HA
      simp only [whirligiglaw02_PlistDiffers.j1] at H
      by_cases c33 : x81_18 = true
      ·subst c33
       have H1 : (some false) = some r := by rw [if_pos rfl] at H; exact H
       clear H
       have H := H1
       clear H1
       obtain rfl := Option.some.inj H
       go_wp2
       go_ret
       exact ⟨by first | rfl | (simp [errW_none, errW_some] <;> rfl) | (simp [*, errW_none, errW_some] <;> rfl), by repeat (first | (with_reducible first | exact HB.out | apply below_alloc | apply pw_below_drewN | apply below_drew1 | refine below_set ?_ ac.out | refine below_set ?_ af.out) | exact HB.out)⟩
      ·replace c33 := Bool.eq_false_iff.mpr c33
       subst c33
       have H1 := H
       rw [if_neg (show ¬ (false = true) by decide)] at H1
       clear H
       have H := H1
       clear H1
       replace H := Option.bind_eq_some_iff.mp H
       obtain ⟨⟨t374, t375⟩, A340, H⟩ := H
       (try dsimp only at H)
       have A34 := Aside0.mk A340
       clear A340
       replace H := Option.bind_eq_some_iff.mp H
       obtain ⟨⟨t376, t377⟩, A350, H⟩ := H
       (try dsimp only at H)
       have A35 := Aside0.mk A350
       clear A350
       by_cases an : (t374 == t376) = true
       ·rw [if_pos an] at H
        have c36b0 : (t374 == t376) = true := an
        (try (have c36b1 : decide (t374 = t376) = true := by simpa using an))
        (try (have c36b2 : (t374 == t376) = true := by simpa using an))
        clear an
        replace H := Option.bind_eq_some_iff.mp H
        obtain ⟨t378, A370, H⟩ := H
        replace H : (some t378) = some r := H
        have A37 := Aside0.mk A370
        clear A370
        obtain rfl := Option.some.inj H
        have hnb38 := ag.out
        have hnc38 := ai.out
        have hcz39_0 : wc.cell? ⟨ae, 0, none⟩ = some (.int .u32 ah) := (blk_cell aa.out 0).trans rfl
        have hcz39_1 : wc.cell? ⟨ae, 1, none⟩ = some (.int .i64 ad) := (blk_cell aa.out 1).trans rfl
        have hfz39_0 := blk_frozen aa.out 0
        have hfz39_1 := blk_frozen aa.out 1
        go_wp2_with (first | ((with_reducible refine gate_callee (f := 14) rfl ?_); refine goesL_ (some 85) rfl rfl Try.func14 (by kernel_rfl) rfl #[.slice A0 l0.length c0, .agg #[.int .u32 ah, .int .i64 ad]] rfl (by (try simp only [List.map_toArray, List.map_cons, List.map_nil]); first | done | rfl) ?_; (with_reducible refine (whirligigref02_Lets.calls ak _ _ l0 ah ad t374 t375 _ ?side1 ?side2 A34.out).mono ?_); (case side1 => repeat (first | exact (Kd.C_below ap.out HB.out) | (with_reducible refine Kd.C_alloc ?_ _) | (with_reducible refine Kd.C_drewN ?_ _) | (with_reducible refine Kd.C_drew ?_))); (case side2 => exact aq.out); rintro e w40 ⟨rfl, hb⟩; refine ⟨_, rfl, ?_⟩; replace aa := Aside0.mk (kfb47.q aa.out hb rfl); replace ab := Aside0.mk (kfb47.q ab.out hb rfl); replace HB := Aside0.mk (below_step (by repeat (first | (with_reducible first | exact HB.out | apply below_alloc | apply pw_below_drewN | apply below_drew1 | refine below_set ?_ ac.out | refine below_set ?_ af.out) | exact HB.out)) hb); (try clear hb); (try clear al); (try clear hk); (try clear hi); have hcz41_0 : w40.cell? ⟨ae, 0, none⟩ = some (.int .u32 ah) := (blk_cell aa.out 0).trans rfl; have hcz41_1 : w40.cell? ⟨ae, 1, none⟩ = some (.int .i64 ad) := (blk_cell aa.out 1).trans rfl; have hfz41_0 := blk_frozen aa.out 0; have hfz41_1 := blk_frozen aa.out 1) | ((with_reducible refine gate_callee (f := 14) rfl ?_); refine goesL_ (some 91) rfl rfl Try.func14 (by kernel_rfl) rfl #[.slice A1 l1.length c1, .agg #[.int .u32 ah, .int .i64 ad]] rfl (by (try simp only [List.map_toArray, List.map_cons, List.map_nil]); first | done | rfl) ?_; (with_reducible refine (whirligigref02_Lets.calls ak _ _ l1 ah ad t376 t377 _ ?side1 ?side2 A35.out).mono ?_); (case side1 => repeat (first | exact (Kd.C_below ar.out HB.out) | (with_reducible refine Kd.C_alloc ?_ _) | (with_reducible refine Kd.C_drewN ?_ _) | (with_reducible refine Kd.C_drew ?_))); (case side2 => exact au.out); rintro e w42 ⟨rfl, hb⟩; refine ⟨_, rfl, ?_⟩; replace aa := Aside0.mk (kfb47.q aa.out hb rfl); replace ab := Aside0.mk (kfb47.q ab.out hb rfl); replace HB := Aside0.mk (below_step (by repeat (first | (with_reducible first | exact HB.out | apply below_alloc | apply pw_below_drewN | apply below_drew1 | refine below_set ?_ ac.out | refine below_set ?_ af.out) | exact HB.out)) hb); (try clear hb); (try clear al); (try clear hk); (try clear hi)) | ((with_reducible refine gate_callee (f := 12) rfl ?_); refine goesL_ (some 97) rfl rfl Try.func12 (by kernel_rfl) rfl #[] rfl (by (try simp only [List.map_toArray, List.map_cons, List.map_nil]); first | done | rfl) ?_; (with_reducible refine (whirligiglaw02_lives.calls ak  t378 _ A37.out).mono ?_); rintro e w43 ⟨rfl, hb⟩; refine ⟨_, rfl, ?_⟩; replace aa := Aside0.mk (kfb47.q aa.out hb rfl); replace ab := Aside0.mk (kfb47.q ab.out hb rfl); replace HB := Aside0.mk (below_step (by repeat (first | (with_reducible first | exact HB.out | apply below_alloc | apply pw_below_drewN | apply below_drew1 | refine below_set ?_ ac.out | refine below_set ?_ af.out) | exact HB.out)) hb); (try clear hb); (try clear al); (try clear hk); (try clear hi)))
        go_ret
        exact ⟨by first | rfl | (simp [errW_none, errW_some] <;> rfl) | (simp [*, errW_none, errW_some] <;> rfl), by repeat (first | (with_reducible first | exact HB.out | apply below_alloc | apply pw_below_drewN | apply below_drew1 | refine below_set ?_ ac.out | refine below_set ?_ af.out) | exact HB.out)⟩
       ·rw [if_neg an] at H
        have c36b0 : (t374 == t376) = false := by simpa using an
        (try (have c36b1 : decide (t374 = t376) = false := by simpa using an))
        (try (have c36b2 : (t374 == t376) = false := by simpa using an))
        (try (have c36b3 : ¬ (t374 = t376) := by simpa using an))
        clear an
        by_cases c44 : t364 = true
        ·subst c44
         have H1 := H
         rw [if_pos rfl] at H1
         clear H
         have H := H1
         clear H1
         by_cases c45 : t363 < ad
         ·rw [if_pos c45] at H
          have c45b0 : decide (t363 < ad) = true := decide_eq_true c45
          clear c45
          replace H := Option.bind_eq_some_iff.mp H
          obtain ⟨t379, A460, H⟩ := H
          replace H : (some t379) = some r := H
          have A46 := Aside0.mk A460
          clear A460
          obtain rfl := Option.some.inj H
          have hnb47 := ag.out
          have hnc47 := ai.out
          have hcz48_0 : wc.cell? ⟨ae, 0, none⟩ = some (.int .u32 ah) := (blk_cell aa.out 0).trans rfl
          have hcz48_1 : wc.cell? ⟨ae, 1, none⟩ = some (.int .i64 ad) := (blk_cell aa.out 1).trans rfl
          have hfz48_0 := blk_frozen aa.out 0
          have hfz48_1 := blk_frozen aa.out 1
          go_wp2_with (first | ((with_reducible refine gate_callee (f := 14) rfl ?_); refine goesL_ (some 85) rfl rfl Try.func14 (by kernel_rfl) rfl #[.slice A0 l0.length c0, .agg #[.int .u32 ah, .int .i64 ad]] rfl (by (try simp only [List.map_toArray, List.map_cons, List.map_nil]); first | done | rfl) ?_; (with_reducible refine (whirligigref02_Lets.calls ak _ _ l0 ah ad t374 t375 _ ?side1 ?side2 A34.out).mono ?_); (case side1 => repeat (first | exact (Kd.C_below ap.out HB.out) | (with_reducible refine Kd.C_alloc ?_ _) | (with_reducible refine Kd.C_drewN ?_ _) | (with_reducible refine Kd.C_drew ?_))); (case side2 => exact aq.out); rintro e w49 ⟨rfl, hb⟩; refine ⟨_, rfl, ?_⟩; replace aa := Aside0.mk (kfb47.q aa.out hb rfl); replace ab := Aside0.mk (kfb47.q ab.out hb rfl); replace HB := Aside0.mk (below_step (by repeat (first | (with_reducible first | exact HB.out | apply below_alloc | apply pw_below_drewN | apply below_drew1 | refine below_set ?_ ac.out | refine below_set ?_ af.out) | exact HB.out)) hb); (try clear hb); (try clear al); (try clear hk); (try clear hi); have hcz50_0 : w49.cell? ⟨ae, 0, none⟩ = some (.int .u32 ah) := (blk_cell aa.out 0).trans rfl; have hcz50_1 : w49.cell? ⟨ae, 1, none⟩ = some (.int .i64 ad) := (blk_cell aa.out 1).trans rfl; have hfz50_0 := blk_frozen aa.out 0; have hfz50_1 := blk_frozen aa.out 1) | ((with_reducible refine gate_callee (f := 14) rfl ?_); refine goesL_ (some 91) rfl rfl Try.func14 (by kernel_rfl) rfl #[.slice A1 l1.length c1, .agg #[.int .u32 ah, .int .i64 ad]] rfl (by (try simp only [List.map_toArray, List.map_cons, List.map_nil]); first | done | rfl) ?_; (with_reducible refine (whirligigref02_Lets.calls ak _ _ l1 ah ad t376 t377 _ ?side1 ?side2 A35.out).mono ?_); (case side1 => repeat (first | exact (Kd.C_below ar.out HB.out) | (with_reducible refine Kd.C_alloc ?_ _) | (with_reducible refine Kd.C_drewN ?_ _) | (with_reducible refine Kd.C_drew ?_))); (case side2 => exact au.out); rintro e w51 ⟨rfl, hb⟩; refine ⟨_, rfl, ?_⟩; replace aa := Aside0.mk (kfb47.q aa.out hb rfl); replace ab := Aside0.mk (kfb47.q ab.out hb rfl); replace HB := Aside0.mk (below_step (by repeat (first | (with_reducible first | exact HB.out | apply below_alloc | apply pw_below_drewN | apply below_drew1 | refine below_set ?_ ac.out | refine below_set ?_ af.out) | exact HB.out)) hb); (try clear hb); (try clear al); (try clear hk); (try clear hi); have hcz52_0 : w51.cell? ⟨aj, 0, none⟩ = some (.int .u32 t362) := (blk_cell ab.out 0).trans rfl; have hcz52_1 : w51.cell? ⟨aj, 1, none⟩ = some (.int .i64 t363) := (blk_cell ab.out 1).trans rfl; have hfz52_0 := blk_frozen ab.out 0; have hfz52_1 := blk_frozen ab.out 1; have hcz53_0 : w51.cell? ⟨ae, 0, none⟩ = some (.int .u32 ah) := (blk_cell aa.out 0).trans rfl; have hcz53_1 : w51.cell? ⟨ae, 1, none⟩ = some (.int .i64 ad) := (blk_cell aa.out 1).trans rfl; have hfz53_0 := blk_frozen aa.out 0; have hfz53_1 := blk_frozen aa.out 1) | (go_at_call 12; (with_reducible refine (whirligiglaw02_lives.calls ak  t379 _ A46.out).mono ?_); rintro e w54 ⟨rfl, hb⟩; replace aa := Aside0.mk (kfb47.q aa.out hb rfl); replace ab := Aside0.mk (kfb47.q ab.out hb rfl); replace HB := Aside0.mk (below_step (by repeat (first | (with_reducible first | exact HB.out | apply below_alloc | apply pw_below_drewN | apply below_drew1 | refine below_set ?_ ac.out | refine below_set ?_ af.out) | exact HB.out)) hb); (try clear hb); (try clear al); (try clear hk); (try clear hi)))
          go_ret
          exact ⟨by first | rfl | (simp [errW_none, errW_some] <;> rfl) | (simp [*, errW_none, errW_some] <;> rfl), by repeat (first | (with_reducible first | exact HB.out | apply below_alloc | apply pw_below_drewN | apply below_drew1 | refine below_set ?_ ac.out | refine below_set ?_ af.out) | exact HB.out)⟩
         ·rw [if_neg c45] at H
          have c45b0 : decide (t363 < ad) = false := decide_eq_false c45
          clear c45
          by_cases c55 : t363 = ad
          ·rw [if_pos c55] at H
           have c55b0 : (t363 == ad) = true := beq_iff_eq.mpr c55
           have c55b1 : (t363 != ad) = false := bne_eq_false_iff_eq.mpr c55
           clear c55
           by_cases c56 : t362 ≤ ah
           ·rw [if_pos c56] at H
            have c56b0 : decide (t362 ≤ ah) = true := decide_eq_true c56
            clear c56
            replace H := Option.bind_eq_some_iff.mp H
            obtain ⟨t380, A570, H⟩ := H
            replace H : (some t380) = some r := H
            have A57 := Aside0.mk A570
            clear A570
            obtain rfl := Option.some.inj H
            have hnb58 := ag.out
            have hnc58 := ai.out
            have hcz59_0 : wc.cell? ⟨ae, 0, none⟩ = some (.int .u32 ah) := (blk_cell aa.out 0).trans rfl
            have hcz59_1 : wc.cell? ⟨ae, 1, none⟩ = some (.int .i64 ad) := (blk_cell aa.out 1).trans rfl
            have hfz59_0 := blk_frozen aa.out 0
            have hfz59_1 := blk_frozen aa.out 1
            go_wp2_with (first | ((with_reducible refine gate_callee (f := 14) rfl ?_); refine goesL_ (some 85) rfl rfl Try.func14 (by kernel_rfl) rfl #[.slice A0 l0.length c0, .agg #[.int .u32 ah, .int .i64 ad]] rfl (by (try simp only [List.map_toArray, List.map_cons, List.map_nil]); first | done | rfl) ?_; (with_reducible refine (whirligigref02_Lets.calls ak _ _ l0 ah ad t374 t375 _ ?side1 ?side2 A34.out).mono ?_); (case side1 => repeat (first | exact (Kd.C_below ap.out HB.out) | (with_reducible refine Kd.C_alloc ?_ _) | (with_reducible refine Kd.C_drewN ?_ _) | (with_reducible refine Kd.C_drew ?_))); (case side2 => exact aq.out); rintro e w60 ⟨rfl, hb⟩; refine ⟨_, rfl, ?_⟩; replace aa := Aside0.mk (kfb47.q aa.out hb rfl); replace ab := Aside0.mk (kfb47.q ab.out hb rfl); replace HB := Aside0.mk (below_step (by repeat (first | (with_reducible first | exact HB.out | apply below_alloc | apply pw_below_drewN | apply below_drew1 | refine below_set ?_ ac.out | refine below_set ?_ af.out) | exact HB.out)) hb); (try clear hb); (try clear al); (try clear hk); (try clear hi); have hcz61_0 : w60.cell? ⟨ae, 0, none⟩ = some (.int .u32 ah) := (blk_cell aa.out 0).trans rfl; have hcz61_1 : w60.cell? ⟨ae, 1, none⟩ = some (.int .i64 ad) := (blk_cell aa.out 1).trans rfl; have hfz61_0 := blk_frozen aa.out 0; have hfz61_1 := blk_frozen aa.out 1) | ((with_reducible refine gate_callee (f := 14) rfl ?_); refine goesL_ (some 91) rfl rfl Try.func14 (by kernel_rfl) rfl #[.slice A1 l1.length c1, .agg #[.int .u32 ah, .int .i64 ad]] rfl (by (try simp only [List.map_toArray, List.map_cons, List.map_nil]); first | done | rfl) ?_; (with_reducible refine (whirligigref02_Lets.calls ak _ _ l1 ah ad t376 t377 _ ?side1 ?side2 A35.out).mono ?_); (case side1 => repeat (first | exact (Kd.C_below ar.out HB.out) | (with_reducible refine Kd.C_alloc ?_ _) | (with_reducible refine Kd.C_drewN ?_ _) | (with_reducible refine Kd.C_drew ?_))); (case side2 => exact au.out); rintro e w62 ⟨rfl, hb⟩; refine ⟨_, rfl, ?_⟩; replace aa := Aside0.mk (kfb47.q aa.out hb rfl); replace ab := Aside0.mk (kfb47.q ab.out hb rfl); replace HB := Aside0.mk (below_step (by repeat (first | (with_reducible first | exact HB.out | apply below_alloc | apply pw_below_drewN | apply below_drew1 | refine below_set ?_ ac.out | refine below_set ?_ af.out) | exact HB.out)) hb); (try clear hb); (try clear al); (try clear hk); (try clear hi); have hcz63_0 : w62.cell? ⟨aj, 0, none⟩ = some (.int .u32 t362) := (blk_cell ab.out 0).trans rfl; have hcz63_1 : w62.cell? ⟨aj, 1, none⟩ = some (.int .i64 t363) := (blk_cell ab.out 1).trans rfl; have hfz63_0 := blk_frozen ab.out 0; have hfz63_1 := blk_frozen ab.out 1; have hcz64_0 : w62.cell? ⟨ae, 0, none⟩ = some (.int .u32 ah) := (blk_cell aa.out 0).trans rfl; have hcz64_1 : w62.cell? ⟨ae, 1, none⟩ = some (.int .i64 ad) := (blk_cell aa.out 1).trans rfl; have hfz64_0 := blk_frozen aa.out 0; have hfz64_1 := blk_frozen aa.out 1) | (go_at_call 12; (with_reducible refine (whirligiglaw02_lives.calls ak  t380 _ A57.out).mono ?_); rintro e w65 ⟨rfl, hb⟩; replace aa := Aside0.mk (kfb47.q aa.out hb rfl); replace ab := Aside0.mk (kfb47.q ab.out hb rfl); replace HB := Aside0.mk (below_step (by repeat (first | (with_reducible first | exact HB.out | apply below_alloc | apply pw_below_drewN | apply below_drew1 | refine below_set ?_ ac.out | refine below_set ?_ af.out) | exact HB.out)) hb); (try clear hb); (try clear al); (try clear hk); (try clear hi)))
            go_ret
            exact ⟨by first | rfl | (simp [errW_none, errW_some] <;> rfl) | (simp [*, errW_none, errW_some] <;> rfl), by repeat (first | (with_reducible first | exact HB.out | apply below_alloc | apply pw_below_drewN | apply below_drew1 | refine below_set ?_ ac.out | refine below_set ?_ af.out) | exact HB.out)⟩
           ·rw [if_neg c56] at H
            have c56b0 : decide (t362 ≤ ah) = false := decide_eq_false c56
            clear c56
            obtain rfl := Option.some.inj H
            have hnb66 := ag.out
            have hnc66 := ai.out
            have hcz67_0 : wc.cell? ⟨ae, 0, none⟩ = some (.int .u32 ah) := (blk_cell aa.out 0).trans rfl
            have hcz67_1 : wc.cell? ⟨ae, 1, none⟩ = some (.int .i64 ad) := (blk_cell aa.out 1).trans rfl
            have hfz67_0 := blk_frozen aa.out 0
            have hfz67_1 := blk_frozen aa.out 1
            go_wp2_with (first | ((with_reducible refine gate_callee (f := 14) rfl ?_); refine goesL_ (some 85) rfl rfl Try.func14 (by kernel_rfl) rfl #[.slice A0 l0.length c0, .agg #[.int .u32 ah, .int .i64 ad]] rfl (by (try simp only [List.map_toArray, List.map_cons, List.map_nil]); first | done | rfl) ?_; (with_reducible refine (whirligigref02_Lets.calls ak _ _ l0 ah ad t374 t375 _ ?side1 ?side2 A34.out).mono ?_); (case side1 => repeat (first | exact (Kd.C_below ap.out HB.out) | (with_reducible refine Kd.C_alloc ?_ _) | (with_reducible refine Kd.C_drewN ?_ _) | (with_reducible refine Kd.C_drew ?_))); (case side2 => exact aq.out); rintro e w68 ⟨rfl, hb⟩; refine ⟨_, rfl, ?_⟩; replace aa := Aside0.mk (kfb47.q aa.out hb rfl); replace ab := Aside0.mk (kfb47.q ab.out hb rfl); replace HB := Aside0.mk (below_step (by repeat (first | (with_reducible first | exact HB.out | apply below_alloc | apply pw_below_drewN | apply below_drew1 | refine below_set ?_ ac.out | refine below_set ?_ af.out) | exact HB.out)) hb); (try clear hb); (try clear al); (try clear hk); (try clear hi); have hcz69_0 : w68.cell? ⟨ae, 0, none⟩ = some (.int .u32 ah) := (blk_cell aa.out 0).trans rfl; have hcz69_1 : w68.cell? ⟨ae, 1, none⟩ = some (.int .i64 ad) := (blk_cell aa.out 1).trans rfl; have hfz69_0 := blk_frozen aa.out 0; have hfz69_1 := blk_frozen aa.out 1) | ((with_reducible refine gate_callee (f := 14) rfl ?_); refine goesL_ (some 91) rfl rfl Try.func14 (by kernel_rfl) rfl #[.slice A1 l1.length c1, .agg #[.int .u32 ah, .int .i64 ad]] rfl (by (try simp only [List.map_toArray, List.map_cons, List.map_nil]); first | done | rfl) ?_; (with_reducible refine (whirligigref02_Lets.calls ak _ _ l1 ah ad t376 t377 _ ?side1 ?side2 A35.out).mono ?_); (case side1 => repeat (first | exact (Kd.C_below ar.out HB.out) | (with_reducible refine Kd.C_alloc ?_ _) | (with_reducible refine Kd.C_drewN ?_ _) | (with_reducible refine Kd.C_drew ?_))); (case side2 => exact au.out); rintro e w70 ⟨rfl, hb⟩; refine ⟨_, rfl, ?_⟩; replace aa := Aside0.mk (kfb47.q aa.out hb rfl); replace ab := Aside0.mk (kfb47.q ab.out hb rfl); replace HB := Aside0.mk (below_step (by repeat (first | (with_reducible first | exact HB.out | apply below_alloc | apply pw_below_drewN | apply below_drew1 | refine below_set ?_ ac.out | refine below_set ?_ af.out) | exact HB.out)) hb); (try clear hb); (try clear al); (try clear hk); (try clear hi); have hcz71_0 : w70.cell? ⟨aj, 0, none⟩ = some (.int .u32 t362) := (blk_cell ab.out 0).trans rfl; have hcz71_1 : w70.cell? ⟨aj, 1, none⟩ = some (.int .i64 t363) := (blk_cell ab.out 1).trans rfl; have hfz71_0 := blk_frozen ab.out 0; have hfz71_1 := blk_frozen ab.out 1; have hcz72_0 : w70.cell? ⟨ae, 0, none⟩ = some (.int .u32 ah) := (blk_cell aa.out 0).trans rfl; have hcz72_1 : w70.cell? ⟨ae, 1, none⟩ = some (.int .i64 ad) := (blk_cell aa.out 1).trans rfl; have hfz72_0 := blk_frozen aa.out 0; have hfz72_1 := blk_frozen aa.out 1))
            go_ret
            exact ⟨by first | rfl | (simp [errW_none, errW_some] <;> rfl) | (simp [*, errW_none, errW_some] <;> rfl), by repeat (first | (with_reducible first | exact HB.out | apply below_alloc | apply pw_below_drewN | apply below_drew1 | refine below_set ?_ ac.out | refine below_set ?_ af.out) | exact HB.out)⟩
          ·rw [if_neg c55] at H
           have c55b0 : (t363 == ad) = false := beq_eq_false_iff_ne.mpr c55
           have c55b1 : (t363 != ad) = true := bne_iff_ne.mpr c55
           obtain rfl := Option.some.inj H
           have hnb73 := ag.out
           have hnc73 := ai.out
           have hcz74_0 : wc.cell? ⟨ae, 0, none⟩ = some (.int .u32 ah) := (blk_cell aa.out 0).trans rfl
           have hcz74_1 : wc.cell? ⟨ae, 1, none⟩ = some (.int .i64 ad) := (blk_cell aa.out 1).trans rfl
           have hfz74_0 := blk_frozen aa.out 0
           have hfz74_1 := blk_frozen aa.out 1
           go_wp2_with (first | ((with_reducible refine gate_callee (f := 14) rfl ?_); refine goesL_ (some 85) rfl rfl Try.func14 (by kernel_rfl) rfl #[.slice A0 l0.length c0, .agg #[.int .u32 ah, .int .i64 ad]] rfl (by (try simp only [List.map_toArray, List.map_cons, List.map_nil]); first | done | rfl) ?_; (with_reducible refine (whirligigref02_Lets.calls ak _ _ l0 ah ad t374 t375 _ ?side1 ?side2 A34.out).mono ?_); (case side1 => repeat (first | exact (Kd.C_below ap.out HB.out) | (with_reducible refine Kd.C_alloc ?_ _) | (with_reducible refine Kd.C_drewN ?_ _) | (with_reducible refine Kd.C_drew ?_))); (case side2 => exact aq.out); rintro e w75 ⟨rfl, hb⟩; refine ⟨_, rfl, ?_⟩; replace aa := Aside0.mk (kfb47.q aa.out hb rfl); replace ab := Aside0.mk (kfb47.q ab.out hb rfl); replace HB := Aside0.mk (below_step (by repeat (first | (with_reducible first | exact HB.out | apply below_alloc | apply pw_below_drewN | apply below_drew1 | refine below_set ?_ ac.out | refine below_set ?_ af.out) | exact HB.out)) hb); (try clear hb); (try clear al); (try clear hk); (try clear hi); have hcz76_0 : w75.cell? ⟨ae, 0, none⟩ = some (.int .u32 ah) := (blk_cell aa.out 0).trans rfl; have hcz76_1 : w75.cell? ⟨ae, 1, none⟩ = some (.int .i64 ad) := (blk_cell aa.out 1).trans rfl; have hfz76_0 := blk_frozen aa.out 0; have hfz76_1 := blk_frozen aa.out 1) | ((with_reducible refine gate_callee (f := 14) rfl ?_); refine goesL_ (some 91) rfl rfl Try.func14 (by kernel_rfl) rfl #[.slice A1 l1.length c1, .agg #[.int .u32 ah, .int .i64 ad]] rfl (by (try simp only [List.map_toArray, List.map_cons, List.map_nil]); first | done | rfl) ?_; (with_reducible refine (whirligigref02_Lets.calls ak _ _ l1 ah ad t376 t377 _ ?side1 ?side2 A35.out).mono ?_); (case side1 => repeat (first | exact (Kd.C_below ar.out HB.out) | (with_reducible refine Kd.C_alloc ?_ _) | (with_reducible refine Kd.C_drewN ?_ _) | (with_reducible refine Kd.C_drew ?_))); (case side2 => exact au.out); rintro e w77 ⟨rfl, hb⟩; refine ⟨_, rfl, ?_⟩; replace aa := Aside0.mk (kfb47.q aa.out hb rfl); replace ab := Aside0.mk (kfb47.q ab.out hb rfl); replace HB := Aside0.mk (below_step (by repeat (first | (with_reducible first | exact HB.out | apply below_alloc | apply pw_below_drewN | apply below_drew1 | refine below_set ?_ ac.out | refine below_set ?_ af.out) | exact HB.out)) hb); (try clear hb); (try clear al); (try clear hk); (try clear hi); have hcz78_0 : w77.cell? ⟨aj, 0, none⟩ = some (.int .u32 t362) := (blk_cell ab.out 0).trans rfl; have hcz78_1 : w77.cell? ⟨aj, 1, none⟩ = some (.int .i64 t363) := (blk_cell ab.out 1).trans rfl; have hfz78_0 := blk_frozen ab.out 0; have hfz78_1 := blk_frozen ab.out 1; have hcz79_0 : w77.cell? ⟨ae, 0, none⟩ = some (.int .u32 ah) := (blk_cell aa.out 0).trans rfl; have hcz79_1 : w77.cell? ⟨ae, 1, none⟩ = some (.int .i64 ad) := (blk_cell aa.out 1).trans rfl; have hfz79_0 := blk_frozen aa.out 0; have hfz79_1 := blk_frozen aa.out 1))
           go_ret
           exact ⟨by first | rfl | (simp [errW_none, errW_some] <;> rfl) | (simp [*, errW_none, errW_some] <;> rfl), by repeat (first | (with_reducible first | exact HB.out | apply below_alloc | apply pw_below_drewN | apply below_drew1 | refine below_set ?_ ac.out | refine below_set ?_ af.out) | exact HB.out)⟩
        ·replace c44 := Bool.eq_false_iff.mpr c44
         subst c44
         have H1 : (some false) = some r := by rw [if_neg (show ¬ (false = true) by decide)] at H; exact H
         clear H
         have H := H1
         clear H1
         obtain rfl := Option.some.inj H
         have hnb80 := ag.out
         have hnc80 := ai.out
         have hcz81_0 : wc.cell? ⟨ae, 0, none⟩ = some (.int .u32 ah) := (blk_cell aa.out 0).trans rfl
         have hcz81_1 : wc.cell? ⟨ae, 1, none⟩ = some (.int .i64 ad) := (blk_cell aa.out 1).trans rfl
         have hfz81_0 := blk_frozen aa.out 0
         have hfz81_1 := blk_frozen aa.out 1
         go_wp2_with (first | ((with_reducible refine gate_callee (f := 14) rfl ?_); refine goesL_ (some 85) rfl rfl Try.func14 (by kernel_rfl) rfl #[.slice A0 l0.length c0, .agg #[.int .u32 ah, .int .i64 ad]] rfl (by (try simp only [List.map_toArray, List.map_cons, List.map_nil]); first | done | rfl) ?_; (with_reducible refine (whirligigref02_Lets.calls ak _ _ l0 ah ad t374 t375 _ ?side1 ?side2 A34.out).mono ?_); (case side1 => repeat (first | exact (Kd.C_below ap.out HB.out) | (with_reducible refine Kd.C_alloc ?_ _) | (with_reducible refine Kd.C_drewN ?_ _) | (with_reducible refine Kd.C_drew ?_))); (case side2 => exact aq.out); rintro e w82 ⟨rfl, hb⟩; refine ⟨_, rfl, ?_⟩; replace aa := Aside0.mk (kfb47.q aa.out hb rfl); replace ab := Aside0.mk (kfb47.q ab.out hb rfl); replace HB := Aside0.mk (below_step (by repeat (first | (with_reducible first | exact HB.out | apply below_alloc | apply pw_below_drewN | apply below_drew1 | refine below_set ?_ ac.out | refine below_set ?_ af.out) | exact HB.out)) hb); (try clear hb); (try clear al); (try clear hk); (try clear hi); have hcz83_0 : w82.cell? ⟨ae, 0, none⟩ = some (.int .u32 ah) := (blk_cell aa.out 0).trans rfl; have hcz83_1 : w82.cell? ⟨ae, 1, none⟩ = some (.int .i64 ad) := (blk_cell aa.out 1).trans rfl; have hfz83_0 := blk_frozen aa.out 0; have hfz83_1 := blk_frozen aa.out 1) | ((with_reducible refine gate_callee (f := 14) rfl ?_); refine goesL_ (some 91) rfl rfl Try.func14 (by kernel_rfl) rfl #[.slice A1 l1.length c1, .agg #[.int .u32 ah, .int .i64 ad]] rfl (by (try simp only [List.map_toArray, List.map_cons, List.map_nil]); first | done | rfl) ?_; (with_reducible refine (whirligigref02_Lets.calls ak _ _ l1 ah ad t376 t377 _ ?side1 ?side2 A35.out).mono ?_); (case side1 => repeat (first | exact (Kd.C_below ar.out HB.out) | (with_reducible refine Kd.C_alloc ?_ _) | (with_reducible refine Kd.C_drewN ?_ _) | (with_reducible refine Kd.C_drew ?_))); (case side2 => exact au.out); rintro e w84 ⟨rfl, hb⟩; refine ⟨_, rfl, ?_⟩; replace aa := Aside0.mk (kfb47.q aa.out hb rfl); replace ab := Aside0.mk (kfb47.q ab.out hb rfl); replace HB := Aside0.mk (below_step (by repeat (first | (with_reducible first | exact HB.out | apply below_alloc | apply pw_below_drewN | apply below_drew1 | refine below_set ?_ ac.out | refine below_set ?_ af.out) | exact HB.out)) hb); (try clear hb); (try clear al); (try clear hk); (try clear hi)))
         go_ret
         exact ⟨by first | rfl | (simp [errW_none, errW_some] <;> rfl) | (simp [*, errW_none, errW_some] <;> rfl), by repeat (first | (with_reducible first | exact HB.out | apply below_alloc | apply pw_below_drewN | apply below_drew1 | refine below_set ?_ ac.out | refine below_set ?_ af.out) | exact HB.out)⟩
   ·rw [if_neg ax] at H
    have c16b0 : (x10_5 == 0) = false := beq_eq_false_iff_ne.mpr ax
    have c16b1 : (x10_5 != 0) = true := bne_iff_ne.mpr ax
    by_cases ao : (t362 == 0 && (t363 == 0)) = true
    ·rw [if_pos ao] at H
     have c85b0 : (t362 == 0 && (t363 == 0)) = true := ao
     (try (have c85b1 : decide (t362 = 0 && (t363 == 0)) = true := by simpa using ao))
     (try (have c85b2 : (t362 == 0 && (t363 == 0)) = true := by simpa using ao))
     clear ao
     by_cases c86 : t364 = true
     ·subst c86
      have H1 : (some false) = some r := by rw [if_pos rfl] at H; exact H
      clear H
      have H := H1
      clear H1
      obtain rfl := Option.some.inj H
      have hnb87 := ai.out
      have hnc87 := ag.out
      have hcz88_0 : wc.cell? ⟨aj, 0, none⟩ = some (.int .u32 t362) := (blk_cell ab.out 0).trans rfl
      have hcz88_1 : wc.cell? ⟨aj, 1, none⟩ = some (.int .i64 t363) := (blk_cell ab.out 1).trans rfl
      have hfz88_0 := blk_frozen ab.out 0
      have hfz88_1 := blk_frozen ab.out 1
      go_wp2
      go_ret
      exact ⟨by first | rfl | (simp [errW_none, errW_some] <;> rfl) | (simp [*, errW_none, errW_some] <;> rfl), by repeat (first | (with_reducible first | exact HB.out | apply below_alloc | apply pw_below_drewN | apply below_drew1 | refine below_set ?_ ac.out | refine below_set ?_ af.out) | exact HB.out)⟩
     ·replace c86 := Bool.eq_false_iff.mpr c86
      subst c86
      have H1 : (if t365 = x10_5 then ((whirligiglaw02_lives.f aw).bind fun t369 => (some t369)) else (some false)) = some r := by rw [if_neg (show ¬ (false = true) by decide)] at H; exact H
      clear H
      have H := H1
      clear H1
      by_cases c89 : t365 = x10_5
      ·rw [if_pos c89] at H
       have c89b0 : (t365 == x10_5) = true := beq_iff_eq.mpr c89
       have c89b1 : (t365 != x10_5) = false := bne_eq_false_iff_eq.mpr c89
       clear c89
       replace H := Option.bind_eq_some_iff.mp H
       obtain ⟨t369, A900, H⟩ := H
       replace H : (some t369) = some r := H
       have A90 := Aside0.mk A900
       clear A900
       obtain rfl := Option.some.inj H
       have hnb91 := ai.out
       have hnc91 := ag.out
       have hcz92_0 : wc.cell? ⟨aj, 0, none⟩ = some (.int .u32 t362) := (blk_cell ab.out 0).trans rfl
       have hcz92_1 : wc.cell? ⟨aj, 1, none⟩ = some (.int .i64 t363) := (blk_cell ab.out 1).trans rfl
       have hfz92_0 := blk_frozen ab.out 0
       have hfz92_1 := blk_frozen ab.out 1
       go_wp2_with (first | (go_at_call 12; (with_reducible refine (whirligiglaw02_lives.calls aw  t369 _ A90.out).mono ?_); rintro e w93 ⟨rfl, hb⟩; replace aa := Aside0.mk (kfb47.q aa.out hb rfl); replace ab := Aside0.mk (kfb47.q ab.out hb rfl); replace HB := Aside0.mk (below_step (by repeat (first | (with_reducible first | exact HB.out | apply below_alloc | apply pw_below_drewN | apply below_drew1 | refine below_set ?_ ac.out | refine below_set ?_ af.out) | exact HB.out)) hb); (try clear hb); (try clear al); (try clear hk); (try clear hi)))
       go_ret
       exact ⟨by first | rfl | (simp [errW_none, errW_some] <;> rfl) | (simp [*, errW_none, errW_some] <;> rfl), by repeat (first | (with_reducible first | exact HB.out | apply below_alloc | apply pw_below_drewN | apply below_drew1 | refine below_set ?_ ac.out | refine below_set ?_ af.out) | exact HB.out)⟩
      ·rw [if_neg c89] at H
       have c89b0 : (t365 == x10_5) = false := beq_eq_false_iff_ne.mpr c89
       have c89b1 : (t365 != x10_5) = true := bne_iff_ne.mpr c89
       obtain rfl := Option.some.inj H
       have hnb94 := ai.out
       have hnc94 := ag.out
       have hcz95_0 : wc.cell? ⟨aj, 0, none⟩ = some (.int .u32 t362) := (blk_cell ab.out 0).trans rfl
       have hcz95_1 : wc.cell? ⟨aj, 1, none⟩ = some (.int .i64 t363) := (blk_cell ab.out 1).trans rfl
       have hfz95_0 := blk_frozen ab.out 0
       have hfz95_1 := blk_frozen ab.out 1
       go_wp2
       go_ret
       exact ⟨by first | rfl | (simp [errW_none, errW_some] <;> rfl) | (simp [*, errW_none, errW_some] <;> rfl), by repeat (first | (with_reducible first | exact HB.out | apply below_alloc | apply pw_below_drewN | apply below_drew1 | refine below_set ?_ ac.out | refine below_set ?_ af.out) | exact HB.out)⟩
    ·rw [if_neg ao] at H
     have c85b0 : (t362 == 0 && (t363 == 0)) = false := by simpa using ao
     (try (have c85b1 : decide (t362 = 0 && (t363 == 0)) = false := by simpa using ao))
     (try (have c85b2 : (t362 == 0 && (t363 == 0)) = false := by simpa using ao))
     (try (have c85b3 : ¬ (t362 = 0 && (t363 == 0)) := by simpa using ao))
     clear ao
     obtain rfl := Option.some.inj H
     have hnb96 := ai.out
     have hnc96 := ag.out
     have hcz97_0 : wc.cell? ⟨aj, 0, none⟩ = some (.int .u32 t362) := (blk_cell ab.out 0).trans rfl
     have hcz97_1 : wc.cell? ⟨aj, 1, none⟩ = some (.int .i64 t363) := (blk_cell ab.out 1).trans rfl
     have hfz97_0 := blk_frozen ab.out 0
     have hfz97_1 := blk_frozen ab.out 1
     go_wp2
     go_ret
     exact ⟨by first | rfl | (simp [errW_none, errW_some] <;> rfl) | (simp [*, errW_none, errW_some] <;> rfl), by repeat (first | (with_reducible first | exact HB.out | apply below_alloc | apply pw_below_drewN | apply below_drew1 | refine below_set ?_ ac.out | refine below_set ?_ af.out) | exact HB.out)⟩

end Go.Proofs.Ytndcjncamdhbfaa.P

/- Part of the proof of RowWirePrefixes: what it asks of functions, words and plain facts (put together by this session's own program, wip/tools/shake.py). -/
import Derived.Test.YtjmpojfpbhihpaaZWirePrefixes0
import Derived.Test.YtjmpojfpbhihpaaZWirePrefixes1
section
namespace Go.Proofs.Ytjmpojfpbhihpaa.P
open Go.RowKit Go.Proofs.YtjmpojfpbhihpaaW.PrintWords Go.Proofs.YtjmpojfpbhihpaaW.PrintLast Go.Proofs.YtjmpojfpbhihpaaW.PrintMore
attribute [local go_sem] max2_int min2_int max_two min_two max_three min_three max_four min_four   -- for this text's walks alone
set_option linter.unusedVariables false
set_option linter.unusedSimpArgs false

attribute [local go_sem high] eqA25
def whirligiglaw10_WirePrefixes.j0 : Nat → List Int → Bool → Int → Int → Option (Bool)
  | 0, _, _, _, _ => none
  | k + 1, x0, x47, x155000, x155001 => if x47 = true then (some false) else ((wire_Prefix.f k x0 x155000 x155001).bind fun t166 => ((wire_Take.f k t166 (x0.length : Int)).bind fun bt169 => (if bt169.2.2.2 = 0 then (if (bt169.1 == x155000 && (bt169.2.1 == x155001)) = true then (if bt169.2.2.1 = (t166.length : Int) then ((whirligigref10_Prefix.f k x155000 x155001).bind fun t174 => (if (strOfNums x0).size + t174.size ≤ 9223372036854775807 then (if (strOfNums t166).toList = ((strOfNums x0) ++ t174).toList then ((whirligiglaw10_lives.f k).bind fun t175 => (some t175)) else (some false)) else (none))) else (some false)) else (some false)) else (if (t166.length : Int) = (x0.length : Int) then (if (strOfNums t166).toList = (strOfNums x0).toList then ((whirligiglaw10_lives.f k).bind fun t176 => (some t176)) else (some false)) else (some false)))))
def whirligiglaw10_WirePrefixes.f (k : Nat) (l0 : List Int) (a1 : Int) (a2_0 : Int) (a2_1 : Int) : Option (Bool) := if (l0.length : Int) > 5000 then ((whirligiglaw10_lives.f k).bind fun t155 => (some t155)) else ((wire_Take.f k l0 a1).bind fun bt156 => ((whirligigref10_Take.f k l0 a1).bind fun bt161 => (if (!(bt156.1 == bt161.1) || (!(bt156.2.1 == bt161.2.1))) = true then (whirligiglaw10_WirePrefixes.j0 k l0 true a2_0 a2_1) else (if bt156.2.2.1 = bt161.2.2.1 then (whirligiglaw10_WirePrefixes.j0 k l0 (bt156.2.2.2 != bt161.2.2.2) a2_0 a2_1) else (whirligiglaw10_WirePrefixes.j0 k l0 true a2_0 a2_1)))))
def whirligiglaw10_WirePrefixes.T11 : Bool × List (List Nat × List Nat) := (true, [([], []), ([], []), ([0, 1], [0, 1]), ([2], [2]), ([3], [3]), ([3], [3]), ([5, 3], [3, 5]), ([4, 6, 3], [3, 4, 6]), ([3, 7], [3, 7]), ([8, 3], [8]), ([9], [9]), ([10, 9], [9, 10]), ([9], [9]), ([12, 9], [9, 12]), ([9], [9]), ([14, 9, 9], [9, 14]), ([13, 15, 9], [9, 13, 15]), ([11, 16, 9], [9, 11, 16]), ([9, 17], [9, 17]), ([18, 15], [18]), ([19, 19], [19]), ([19, 20], [19, 20]), ([21, 20, 0, 1, 2, 3, 4, 5, 6, 7, 8, 9, 10, 11, 12, 13, 14, 15, 16, 17, 18, 19, 20, 21], [21])])
def whirligiglaw10_WirePrefixes.B11 : List Nat := [0, 0, 3, 7, 15, 15, 47, 127, 255, 511, 1023, 2047, 1023, 5119, 1023, 17407, 62463, 131071, 262143, 524287, 1048575, 2097151, 4194303]
theorem whirligiglaw10_WirePrefixes.tab11 : rtab .any (opsOf Try.f3 11) = whirligiglaw10_WirePrefixes.T11 := by kernel_rfl
theorem whirligiglaw10_WirePrefixes.bits11 : waitsOk whirligiglaw10_WirePrefixes.T11.2 whirligiglaw10_WirePrefixes.B11 = true := by kernel_rfl
theorem k763a.b2 {W : World} {g : Nat} {v0 v1 : Value} {t : TypeId} (h : W.heap[g]? = some (.cells #[v0, v1] t (0, 0))) {R : Prop} (r : R) : W.cell? ⟨g, 0, none⟩ = some v0 ∧ W.cell? ⟨g, 1, none⟩ = some v1 ∧ R :=
  ⟨(blk_cell h 0).trans rfl, (blk_cell h 1).trans rfl, r⟩
theorem k763a.b2e {W : World} {g : Nat} {v0 v1 : Value} {t : TypeId} (h : W.heap[g]? = some (.cells #[v0, v1] t (0, 0))) : W.cell? ⟨g, 0, none⟩ = some v0 ∧ W.cell? ⟨g, 1, none⟩ = some v1 :=
  ⟨(blk_cell h 0).trans rfl, (blk_cell h 1).trans rfl⟩
theorem k763a.q {w W W' : World} {g : Nat} {o : Obj} (h : w.heap[g]? = some o) (hb : Below W.heap.size W W') (e : W.heap = w.heap) : W'.heap[g]? = some o := blk_below (e ▸ h) hb
theorem k763a.z {w0 w W W' : World} (h : Below w0.heap.size w0 w) (hb : Below W.heap.size W W') (e : W.heap = w.heap) (e1 : W.os = w.os) (e2 : W.tape = w.tape) (e3 : W.output = w.output) : Below w0.heap.size w0 W' := below_step ⟨e1.trans h.os, e2.trans h.tape, e3.trans h.output, e ▸ h.size, fun k hk => by rw [e]; exact h.block k hk⟩ hb
@[reducible] def k763a.S0 (g0 g1 : Nat) (v0 v1 v2 v3 : Value) (w' : World) : Prop := w'.cell? ⟨g0, 0, none⟩ = some v0 ∧ w'.cell? ⟨g0, 1, none⟩ = some v1 ∧ w'.cell? ⟨g1, 0, none⟩ = some v2 ∧ w'.cell? ⟨g1, 1, none⟩ = some v3
set_option maxHeartbeats 8000000 in
set_option maxRecDepth 100000 in
theorem whirligiglaw10_WirePrefixes.calls (k : Nat) (A0 : Option Addr) (c0 : Nat) (l0 : List Int) (a1 : Int) (ak : Int) (al : Int) (r : Bool) (w : World) (hr0 : Kd.C (Kd.int .u8) w A0 l0.length l0) (hc0 : l0.length ≤ c0) (h : whirligiglaw10_WirePrefixes.f k l0 a1 ak al = some r) :
  Calls Try.prog 3 #[.slice A0 l0.length c0, .int .i64 a1, .agg #[.int .u32 ak, .int .i64 al]] w fun e w' => e = .returned (.bool r) ∧ Below w.heap.size w w' := by
 have hu25 := Try.underlying25
 have ba := Aside0.mk hr0
 have bf := Aside0.mk hc0
 clear hr0 hc0
 have HB := Aside0.mk (Below.refl w.heap.size w)
 have H := h
 unfold whirligiglaw10_WirePrefixes.f at H
 clear h
 by_cases c4 : (l0.length : Int) > 5000
 ·rw [if_pos c4] at H
  have c4b0 : decide (5000 < (l0.length : Int)) = true := decide_eq_true c4
  have c4b1 : decide (5000 < l0.length) = true := decide_eq_true (by omega)
  clear c4
  replace H := Option.bind_eq_some_iff.mp H
  obtain ⟨t155, A50, H⟩ := H
  replace H : (some t155) = some r := H
  have A5 := Aside0.mk A50
  clear A50
  obtain rfl := Option.some.inj H
  go_enter Try.func3, Try.ntmps3
  go_wp2_with (first | ((with_reducible refine gate_dst (N := 5) rfl ?_); (try (refine gate_guard (by rfl) ?_; dsimp only)); refine box_event ?hg (N := 5) ?hd (cs := #[.int .u32 ak, .int .i64 al]) (t := 25) ?hr ?_; (case hd => rfl); (case hg => rfl); (case hr => first | (go_simp; done) | (go_simp; rfl)); intro ag hg w6 hbox hb; have n0_ := Aside0.mk (k763a.z HB.out hb rfl rfl rfl rfl); have n1_ := Aside0.mk (hbox); have n2_ := Aside0.mk ((by rw [hg]; exact (below_size (by repeat (first | (with_reducible first | exact HB.out | apply below_alloc | apply pw_below_drewN | apply below_drew1) | exact HB.out))) : w.heap.size ≤ ag)); have n3_ := Aside0.mk ((by rw [hg]; exact (below_size (by repeat (first | (with_reducible first | exact HB.out | apply below_alloc | apply pw_below_drewN | apply below_drew1) | exact HB.out))) : w.heap.size ≤ ag)); clear HB; have HB := n0_; have aa := n1_; have GW154 := n2_; have ah := n3_; clear n0_ n1_ n2_ n3_; clear hb hbox hg) | ((with_reducible refine gate_callee (f := 9) rfl ?_); refine goesL_ (some 20) rfl rfl Try.func9 (by kernel_rfl) rfl #[] rfl (by (try simp only [List.map_toArray, List.map_cons, List.map_nil]); first | done | rfl) ?_; (with_reducible refine (whirligiglaw10_lives.calls k  t155 _ A5.out).mono ?_); rintro e w7 ⟨rfl, hb⟩; refine ⟨_, rfl, ?_⟩; replace aa := Aside0.mk (k763a.q aa.out hb rfl); replace HB := Aside0.mk (below_step (by repeat (first | (with_reducible first | exact HB.out | apply below_alloc | apply pw_below_drewN | apply below_drew1 | refine below_set ?_ ah.out) | exact HB.out)) hb); (try clear hb); (try clear bb); (try clear hk); (try clear hi)))
  go_ret
  exact ⟨by first | rfl | (simp [errW_none, errW_some] <;> rfl) | (simp [*, errW_none, errW_some] <;> rfl), by repeat (first | (with_reducible first | exact HB.out | apply below_alloc | apply pw_below_drewN | apply below_drew1 | refine below_set ?_ ah.out) | exact HB.out)⟩
 ·rw [if_neg c4] at H
  have c4b0 : decide (5000 < (l0.length : Int)) = false := decide_eq_false c4
  have c4b1 : decide (5000 < l0.length) = false := decide_eq_false (by omega)
  clear c4
  replace H := Option.bind_eq_some_iff.mp H
  obtain ⟨⟨t156, t157, t158, t159⟩, A80, H⟩ := H
  (try dsimp only at H)
  have A8 := Aside0.mk A80
  clear A80
  replace H := Option.bind_eq_some_iff.mp H
  obtain ⟨⟨t161, t162, t163, t164⟩, A90, H⟩ := H
  (try dsimp only at H)
  have A9 := Aside0.mk A90
  clear A90
  have HC10 := Aside0.mk H
  clear H
  go_enter Try.func3, Try.ntmps3
  go_upto_region 5 with (first | ((with_reducible refine gate_dst (N := 5) rfl ?_); (try (refine gate_guard (by rfl) ?_; dsimp only)); refine box_event ?hg (N := 5) ?hd (cs := #[.int .u32 ak, .int .i64 al]) (t := 25) ?hr ?_; (case hd => rfl); (case hg => rfl); (case hr => first | (go_simp; done) | (go_simp; rfl)); intro ag hg w11 hbox hb; have n0_ := Aside0.mk (k763a.z HB.out hb rfl rfl rfl rfl); have n1_ := Aside0.mk (hbox); have n2_ := Aside0.mk ((by rw [hg]; exact (below_size (by repeat (first | (with_reducible first | exact HB.out | apply below_alloc | apply pw_below_drewN | apply below_drew1) | exact HB.out))) : w.heap.size ≤ ag)); have n3_ := Aside0.mk ((by rw [hg]; exact (below_size (by repeat (first | (with_reducible first | exact HB.out | apply below_alloc | apply pw_below_drewN | apply below_drew1) | exact HB.out))) : w.heap.size ≤ ag)); clear HB; have HB := n0_; have aa := n1_; have GW154 := n2_; have ah := n3_; clear n0_ n1_ n2_ n3_; clear hb hbox hg) | ((with_reducible refine gate_callee (f := 10) rfl ?_); refine goesL_ (some 24) rfl rfl Try.func10 (by kernel_rfl) rfl #[.slice A0 l0.length c0, .int .i64 a1] rfl (by (try simp only [List.map_toArray, List.map_cons, List.map_nil]); first | done | rfl) ?_; (with_reducible refine (wire_Take.calls k _ _ l0 a1 t156 t157 t158 t159 _ ?side1 ?side2 A8.out).mono ?_); (case side1 => repeat (first | exact (Kd.C_below ba.out HB.out) | (with_reducible refine Kd.C_alloc ?_ _) | (with_reducible refine Kd.C_drewN ?_ _) | (with_reducible refine Kd.C_drew ?_))); (case side2 => exact bf.out); rintro e w12 ⟨rfl, hb⟩; refine ⟨_, rfl, ?_⟩; replace aa := Aside0.mk (k763a.q aa.out hb rfl); replace HB := Aside0.mk (below_step (by repeat (first | (with_reducible first | exact HB.out | apply below_alloc | apply pw_below_drewN | apply below_drew1 | refine below_set ?_ ah.out) | exact HB.out)) hb); (try clear hb); (try clear bb); (try clear hk); (try clear hi)) | ((with_reducible refine gate_dst (N := 7) rfl ?_); (try (refine gate_guard (by rfl) ?_; dsimp only)); refine box_event ?hg (N := 7) ?hd (cs := #[.int .u32 0, .int .i64 0]) (t := 25) ?hr ?_; (case hd => rfl); (case hg => rfl); (case hr => first | (go_simp; done) | (go_simp; rfl)); intro am hg w13 hbox hb; have n0_ := Aside0.mk (k763a.q aa.out hb rfl); have n1_ := Aside0.mk (below_step (by repeat (first | (with_reducible first | exact HB.out | apply below_alloc | apply pw_below_drewN | apply below_drew1 | refine below_set ?_ ah.out) | exact HB.out)) hb); have n2_ := Aside0.mk (hbox); have n3_ := Aside0.mk ((by rw [hg]; exact (below_size (by repeat (first | (with_reducible first | exact HB.out | apply below_alloc | apply pw_below_drewN | apply below_drew1 | refine below_set ?_ ah.out) | exact HB.out))) : w.heap.size ≤ am)); have n4_ := Aside0.mk ((by rw [hg]; exact (below_size (by repeat (first | (with_reducible first | exact HB.out | apply below_alloc | apply pw_below_drewN | apply below_drew1 | refine below_set ?_ ah.out) | exact HB.out))) : w.heap.size ≤ am)); have n5_ := Aside0.mk ((by rw [hg]; exact Nat.ne_of_lt (blk_lt (g := ag) (o := .cells #[.int .u32 ak, .int .i64 al] 25 (0, 0)) (by (with_reducible repeat (first | refine blk_drewN ?_ _ | refine blk_drew ?_ | refine blk_alloc ?_ _)); exact aa.out)) : ag ≠ am)); have n6_ := Aside0.mk ((by rw [hg]; exact Nat.ne_of_gt (blk_lt (g := ag) (o := .cells #[.int .u32 ak, .int .i64 al] 25 (0, 0)) (by (with_reducible repeat (first | refine blk_drewN ?_ _ | refine blk_drew ?_ | refine blk_alloc ?_ _)); exact aa.out)) : am ≠ ag)); clear aa; clear HB; have aa := n0_; have HB := n1_; have ac := n2_; have GW160 := n3_; have ai := n4_; have av := n5_; have az := n6_; clear n0_ n1_ n2_ n3_ n4_ n5_ n6_; clear hb hbox hg; have hnb14 := az.out; have hnc14 := av.out; have hcz15_0 : w13.cell? ⟨am, 0, none⟩ = some (.int .u32 0) := (blk_cell ac.out 0).trans rfl; have hcz15_1 : w13.cell? ⟨am, 1, none⟩ = some (.int .i64 0) := (blk_cell ac.out 1).trans rfl; have hfz15_0 := blk_frozen ac.out 0; have hfz15_1 := blk_frozen ac.out 1) | ((with_reducible refine gate_callee (f := 11) rfl ?_); refine goesL_ (some 31) rfl rfl Try.func11 (by kernel_rfl) rfl #[.slice A0 l0.length c0, .int .i64 a1] rfl (by (try simp only [List.map_toArray, List.map_cons, List.map_nil]); first | done | rfl) ?_; (with_reducible refine (whirligigref10_Take.calls k _ _ l0 a1 t161 t162 t163 t164 _ ?side1 ?side2 A9.out).mono ?_); (case side1 => exact Kd.C_below ba.out (by repeat (first | (with_reducible first | exact HB.out | apply below_alloc | apply pw_below_drewN | apply below_drew1 | refine below_set ?_ ah.out | refine below_set ?_ ai.out) | exact HB.out))); (case side2 => exact bf.out); rintro e w16 ⟨rfl, hb⟩; refine ⟨_, rfl, ?_⟩; replace aa := Aside0.mk (blk_below (g := ag) (o := .cells #[.int .u32 ak, .int .i64 al] 25 (0, 0)) (by (with_reducible repeat (first | refine blk_drewN ?_ _ | refine blk_drew ?_ | refine blk_alloc ?_ _)); refine blk_far ?_ av.out _; (with_reducible repeat (first | refine blk_drewN ?_ _ | refine blk_drew ?_ | refine blk_alloc ?_ _)); refine blk_far ?_ av.out _; (with_reducible repeat (first | refine blk_drewN ?_ _ | refine blk_drew ?_ | refine blk_alloc ?_ _)); exact aa.out) hb); replace ac := Aside0.mk (blk_below (g := am) (o := .cells #[.int .u32 t156, .int .i64 t157] 25 (0, 0)) (by (with_reducible repeat (first | refine blk_drewN ?_ _ | refine blk_drew ?_ | refine blk_alloc ?_ _)); refine blk_put (cs := #[.int .u32 t156, .int .i64 0]) ?_ 1 _ (by first | rfl | (simp; done) | (simp; omega)); (with_reducible repeat (first | refine blk_drewN ?_ _ | refine blk_drew ?_ | refine blk_alloc ?_ _)); refine blk_put (cs := #[.int .u32 0, .int .i64 0]) ?_ 0 _ (by first | rfl | (simp; done) | (simp; omega)); (with_reducible repeat (first | refine blk_drewN ?_ _ | refine blk_drew ?_ | refine blk_alloc ?_ _)); exact ac.out) hb); replace HB := Aside0.mk (below_step (by repeat (first | (with_reducible first | exact HB.out | apply below_alloc | apply pw_below_drewN | apply below_drew1 | refine below_set ?_ ah.out | refine below_set ?_ ai.out) | exact HB.out)) hb); (try clear hb); (try clear bb); (try clear hk); (try clear hi)) | ((with_reducible refine gate_dst (N := 10) rfl ?_); (try (refine gate_guard (by rfl) ?_; dsimp only)); refine box_event ?hg (N := 10) ?hd (cs := #[.int .u32 0, .int .i64 0]) (t := 25) ?hr ?_; (case hd => rfl); (case hg => rfl); (case hr => first | (go_simp; done) | (go_simp; rfl)); intro an hg w17 hbox hb; have n0_ := Aside0.mk (k763a.q aa.out hb rfl); have n1_ := Aside0.mk (k763a.q ac.out hb rfl); have n2_ := Aside0.mk (below_step (by repeat (first | (with_reducible first | exact HB.out | apply below_alloc | apply pw_below_drewN | apply below_drew1 | refine below_set ?_ ah.out | refine below_set ?_ ai.out) | exact HB.out)) hb); have n3_ := Aside0.mk (hbox); have n4_ := Aside0.mk ((by rw [hg]; exact (below_size (by repeat (first | (with_reducible first | exact HB.out | apply below_alloc | apply pw_below_drewN | apply below_drew1 | refine below_set ?_ ah.out | refine below_set ?_ ai.out) | exact HB.out))) : w.heap.size ≤ an)); have n5_ := Aside0.mk ((by rw [hg]; exact (below_size (by repeat (first | (with_reducible first | exact HB.out | apply below_alloc | apply pw_below_drewN | apply below_drew1 | refine below_set ?_ ah.out | refine below_set ?_ ai.out) | exact HB.out))) : w.heap.size ≤ an)); have n6_ := Aside0.mk ((by rw [hg]; exact Nat.ne_of_lt (blk_lt (g := ag) (o := .cells #[.int .u32 ak, .int .i64 al] 25 (0, 0)) (by (with_reducible repeat (first | refine blk_drewN ?_ _ | refine blk_drew ?_ | refine blk_alloc ?_ _)); exact aa.out)) : ag ≠ an)); have n7_ := Aside0.mk ((by rw [hg]; exact Nat.ne_of_gt (blk_lt (g := ag) (o := .cells #[.int .u32 ak, .int .i64 al] 25 (0, 0)) (by (with_reducible repeat (first | refine blk_drewN ?_ _ | refine blk_drew ?_ | refine blk_alloc ?_ _)); exact aa.out)) : an ≠ ag)); have n8_ := Aside0.mk ((by rw [hg]; exact Nat.ne_of_lt (blk_lt (g := am) (o := .cells #[.int .u32 t156, .int .i64 t157] 25 (0, 0)) (by (with_reducible repeat (first | refine blk_drewN ?_ _ | refine blk_drew ?_ | refine blk_alloc ?_ _)); exact ac.out)) : am ≠ an)); have n9_ := Aside0.mk ((by rw [hg]; exact Nat.ne_of_gt (blk_lt (g := am) (o := .cells #[.int .u32 t156, .int .i64 t157] 25 (0, 0)) (by (with_reducible repeat (first | refine blk_drewN ?_ _ | refine blk_drew ?_ | refine blk_alloc ?_ _)); exact ac.out)) : an ≠ am)); clear aa; clear ac; clear HB; have aa := n0_; have ac := n1_; have HB := n2_; have ad := n3_; have GW165 := n4_; have aj := n5_; have au := n6_; have a4 := n7_; have a5 := n8_; have NB165_160 := n9_; clear n0_ n1_ n2_ n3_ n4_ n5_ n6_ n7_ n8_ n9_; clear hb hbox hg; have hnb18 := a4.out; have hnc18 := au.out; have hnb19 := NB165_160.out; have hnc19 := a5.out; have hcz20_0 : w17.cell? ⟨an, 0, none⟩ = some (.int .u32 0) := (blk_cell ad.out 0).trans rfl; have hcz20_1 : w17.cell? ⟨an, 1, none⟩ = some (.int .i64 0) := (blk_cell ad.out 1).trans rfl; have hfz20_0 := blk_frozen ad.out 0; have hfz20_1 := blk_frozen ad.out 1))
  (try simp only [Act.put, List.setIfInBounds_toArray, List.set_cons_zero, List.set_cons_succ])
  go_cut [47] (fun v47 wc => ∃ (kq : Nat) (x47_9 : Bool), v47 = .bool x47_9 ∧ Aside0 (whirligiglaw10_WirePrefixes.j0 kq l0 x47_9 ak al = some r) ∧ Aside0 (kq ≤ k) ∧ Aside0 (wc.heap[ag]? = some (.cells #[.int .u32 ak, .int .i64 al] 25 (0, 0))) ∧ Aside0 (wc.heap[am]? = some (.cells #[.int .u32 t156, .int .i64 t157] 25 (0, 0))) ∧ Aside0 (wc.heap[an]? = some (.cells #[.int .u32 t161, .int .i64 t162] 25 (0, 0))) ∧ Aside0 (Below w.heap.size w wc))
  case first =>
   have H := HC10.out
   clear HC10
   by_cases c21 : (!(t156 == t161) || (!(t157 == t162))) = true
   ·rw [if_pos c21] at H
    have c21b0 : (!(t156 == t161) || (!(t157 == t162))) = true := c21
    clear c21
    (first | rw [c21b0] | (simp only [i64_w]; rw [c21b0]) | skip)
    have H' := Aside0.mk H
    clear H
    have hnb22 := az.out
    have hnc22 := av.out
    have hnb23 := a5.out
    have hnc23 := NB165_160.out
    have hcz24_0 : w17.cell? ⟨am, 0, none⟩ = some (.int .u32 t156) := (blk_cell ac.out 0).trans rfl
    have hcz24_1 : w17.cell? ⟨am, 1, none⟩ = some (.int .i64 t157) := (blk_cell ac.out 1).trans rfl
    have hfz24_0 := blk_frozen ac.out 0
    have hfz24_1 := blk_frozen ac.out 1
    have hnb25 := a4.out
    have hnc25 := au.out
    have hcz26_0 : w17.cell? ⟨an, 0, none⟩ = some (.int .u32 0) := (blk_cell ad.out 0).trans rfl
    have hcz26_1 : w17.cell? ⟨an, 1, none⟩ = some (.int .i64 0) := (blk_cell ad.out 1).trans rfl
    have hfz26_0 := blk_frozen ad.out 0
    have hfz26_1 := blk_frozen ad.out 1
    go_wp2
    go_meet
    case rel => exact ⟨_, (true), (by first | rfl | (simp; done) | (simp [*]; done)), H', ⟨by first | omega | exact Nat.le_refl _⟩, ⟨by (with_reducible repeat (first | refine blk_drewN ?_ _ | refine blk_drew ?_ | refine blk_alloc ?_ _)); refine blk_far ?_ au.out _; (with_reducible repeat (first | refine blk_drewN ?_ _ | refine blk_drew ?_ | refine blk_alloc ?_ _)); refine blk_far ?_ au.out _; (with_reducible repeat (first | refine blk_drewN ?_ _ | refine blk_drew ?_ | refine blk_alloc ?_ _)); exact aa.out⟩, ⟨by (with_reducible repeat (first | refine blk_drewN ?_ _ | refine blk_drew ?_ | refine blk_alloc ?_ _)); refine blk_far ?_ a5.out _; (with_reducible repeat (first | refine blk_drewN ?_ _ | refine blk_drew ?_ | refine blk_alloc ?_ _)); refine blk_far ?_ a5.out _; (with_reducible repeat (first | refine blk_drewN ?_ _ | refine blk_drew ?_ | refine blk_alloc ?_ _)); exact ac.out⟩, ⟨by (with_reducible repeat (first | refine blk_drewN ?_ _ | refine blk_drew ?_ | refine blk_alloc ?_ _)); refine blk_put (cs := #[.int .u32 t161, .int .i64 0]) ?_ 1 _ (by first | rfl | (simp; done) | (simp; omega)); (with_reducible repeat (first | refine blk_drewN ?_ _ | refine blk_drew ?_ | refine blk_alloc ?_ _)); refine blk_put (cs := #[.int .u32 0, .int .i64 0]) ?_ 0 _ (by first | rfl | (simp; done) | (simp; omega)); (with_reducible repeat (first | refine blk_drewN ?_ _ | refine blk_drew ?_ | refine blk_alloc ?_ _)); exact ad.out⟩, ⟨by repeat (first | (with_reducible first | exact HB.out | apply below_alloc | apply pw_below_drewN | apply below_drew1 | refine below_set ?_ ah.out | refine below_set ?_ ai.out | refine below_set ?_ aj.out) | exact HB.out)⟩⟩
   ·rw [if_neg c21] at H
    have c21b0 : (!(t156 == t161) || (!(t157 == t162))) = false := by simpa using c21
    clear c21
    (first | rw [c21b0] | (simp only [i64_w]; rw [c21b0]) | skip)
    by_cases bg : t158 = t163
    ·rw [if_pos bg] at H
     have c27b0 : (t158 == t163) = true := beq_iff_eq.mpr bg
     have c27b1 : (t158 != t163) = false := bne_eq_false_iff_eq.mpr bg
     clear bg
     have H' := Aside0.mk H
     clear H
     have hnb28 := az.out
     have hnc28 := av.out
     have hnb29 := a5.out
     have hnc29 := NB165_160.out
     have hcz30_0 : w17.cell? ⟨am, 0, none⟩ = some (.int .u32 t156) := (blk_cell ac.out 0).trans rfl
     have hcz30_1 : w17.cell? ⟨am, 1, none⟩ = some (.int .i64 t157) := (blk_cell ac.out 1).trans rfl
     have hfz30_0 := blk_frozen ac.out 0
     have hfz30_1 := blk_frozen ac.out 1
     have hnb31 := a4.out
     have hnc31 := au.out
     have hcz32_0 : w17.cell? ⟨an, 0, none⟩ = some (.int .u32 0) := (blk_cell ad.out 0).trans rfl
     have hcz32_1 : w17.cell? ⟨an, 1, none⟩ = some (.int .i64 0) := (blk_cell ad.out 1).trans rfl
     have hfz32_0 := blk_frozen ad.out 0
     have hfz32_1 := blk_frozen ad.out 1
     go_wp2
     go_meet
     case rel => exact ⟨_, ((t159 != t164)), (by first | rfl | (simp; done) | (simp [*]; done)), H', ⟨by first | omega | exact Nat.le_refl _⟩, ⟨by (with_reducible repeat (first | refine blk_drewN ?_ _ | refine blk_drew ?_ | refine blk_alloc ?_ _)); refine blk_far ?_ au.out _; (with_reducible repeat (first | refine blk_drewN ?_ _ | refine blk_drew ?_ | refine blk_alloc ?_ _)); refine blk_far ?_ au.out _; (with_reducible repeat (first | refine blk_drewN ?_ _ | refine blk_drew ?_ | refine blk_alloc ?_ _)); exact aa.out⟩, ⟨by (with_reducible repeat (first | refine blk_drewN ?_ _ | refine blk_drew ?_ | refine blk_alloc ?_ _)); refine blk_far ?_ a5.out _; (with_reducible repeat (first | refine blk_drewN ?_ _ | refine blk_drew ?_ | refine blk_alloc ?_ _)); refine blk_far ?_ a5.out _; (with_reducible repeat (first | refine blk_drewN ?_ _ | refine blk_drew ?_ | refine blk_alloc ?_ _)); exact ac.out⟩, ⟨by (with_reducible repeat (first | refine blk_drewN ?_ _ | refine blk_drew ?_ | refine blk_alloc ?_ _)); refine blk_put (cs := #[.int .u32 t161, .int .i64 0]) ?_ 1 _ (by first | rfl | (simp; done) | (simp; omega)); (with_reducible repeat (first | refine blk_drewN ?_ _ | refine blk_drew ?_ | refine blk_alloc ?_ _)); refine blk_put (cs := #[.int .u32 0, .int .i64 0]) ?_ 0 _ (by first | rfl | (simp; done) | (simp; omega)); (with_reducible repeat (first | refine blk_drewN ?_ _ | refine blk_drew ?_ | refine blk_alloc ?_ _)); exact ad.out⟩, ⟨by repeat (first | (with_reducible first | exact HB.out | apply below_alloc | apply pw_below_drewN | apply below_drew1 | refine below_set ?_ ah.out | refine below_set ?_ ai.out | refine below_set ?_ aj.out) | exact HB.out)⟩⟩
    ·rw [if_neg bg] at H
     have c27b0 : (t158 == t163) = false := beq_eq_false_iff_ne.mpr bg
     have c27b1 : (t158 != t163) = true := bne_iff_ne.mpr bg
     have H' := Aside0.mk H
     clear H
     have hnb33 := az.out
     have hnc33 := av.out
     have hnb34 := a5.out
     have hnc34 := NB165_160.out
     have hcz35_0 : w17.cell? ⟨am, 0, none⟩ = some (.int .u32 t156) := (blk_cell ac.out 0).trans rfl
     have hcz35_1 : w17.cell? ⟨am, 1, none⟩ = some (.int .i64 t157) := (blk_cell ac.out 1).trans rfl
     have hfz35_0 := blk_frozen ac.out 0
     have hfz35_1 := blk_frozen ac.out 1
     have hnb36 := a4.out
     have hnc36 := au.out
     have hcz37_0 : w17.cell? ⟨an, 0, none⟩ = some (.int .u32 0) := (blk_cell ad.out 0).trans rfl
     have hcz37_1 : w17.cell? ⟨an, 1, none⟩ = some (.int .i64 0) := (blk_cell ad.out 1).trans rfl
     have hfz37_0 := blk_frozen ad.out 0
     have hfz37_1 := blk_frozen ad.out 1
     go_wp2
     go_meet
     case rel => exact ⟨_, (true), (by first | rfl | (simp; done) | (simp [*]; done)), H', ⟨by first | omega | exact Nat.le_refl _⟩, ⟨by (with_reducible repeat (first | refine blk_drewN ?_ _ | refine blk_drew ?_ | refine blk_alloc ?_ _)); refine blk_far ?_ au.out _; (with_reducible repeat (first | refine blk_drewN ?_ _ | refine blk_drew ?_ | refine blk_alloc ?_ _)); refine blk_far ?_ au.out _; (with_reducible repeat (first | refine blk_drewN ?_ _ | refine blk_drew ?_ | refine blk_alloc ?_ _)); exact aa.out⟩, ⟨by (with_reducible repeat (first | refine blk_drewN ?_ _ | refine blk_drew ?_ | refine blk_alloc ?_ _)); refine blk_far ?_ a5.out _; (with_reducible repeat (first | refine blk_drewN ?_ _ | refine blk_drew ?_ | refine blk_alloc ?_ _)); refine blk_far ?_ a5.out _; (with_reducible repeat (first | refine blk_drewN ?_ _ | refine blk_drew ?_ | refine blk_alloc ?_ _)); exact ac.out⟩, ⟨by (with_reducible repeat (first | refine blk_drewN ?_ _ | refine blk_drew ?_ | refine blk_alloc ?_ _)); refine blk_put (cs := #[.int .u32 t161, .int .i64 0]) ?_ 1 _ (by first | rfl | (simp; done) | (simp; omega)); (with_reducible repeat (first | refine blk_drewN ?_ _ | refine blk_drew ?_ | refine blk_alloc ?_ _)); refine blk_put (cs := #[.int .u32 0, .int .i64 0]) ?_ 0 _ (by first | rfl | (simp; done) | (simp; omega)); (with_reducible repeat (first | refine blk_drewN ?_ _ | refine blk_drew ?_ | refine blk_alloc ?_ _)); exact ad.out⟩, ⟨by repeat (first | (with_reducible first | exact HB.out | apply below_alloc | apply pw_below_drewN | apply below_drew1 | refine below_set ?_ ah.out | refine below_set ?_ ai.out | refine below_set ?_ aj.out) | exact HB.out)⟩⟩
  case rest =>
   clear HC10
   try clear c1
   try clear c2
   try clear p2
   try clear c3
   try clear c4
   try clear c4b0
   try clear c4b1
   try clear c9
   try clear c10
   try clear c11
   try clear c14
   try clear c18
   try clear c19
   try clear c21
   try clear c21b0
   try clear c22
   try clear c23
   try clear c25
   try clear bg
   try clear c27b0
   try clear c27b1
   try clear c28
   try clear c29
   try clear c31
   try clear c33
   try clear c34
   try clear c36
   try clear hcz15_0
   try clear hcz15_1
   try clear hcz20_0
   try clear hcz20_1
   try clear hcz24_0
   try clear hcz24_1
   try clear hcz26_0
   try clear hcz26_1
   try clear hcz30_0
   try clear hcz30_1
   try clear hcz32_0
   try clear hcz32_1
   try clear hcz35_0
   try clear hcz35_1
   try clear hcz37_0
   try clear hcz37_1
   try clear hfz15_0
   try clear hfz15_1
   try clear hfz20_0
   try clear hfz20_1
   try clear hfz24_0
   try clear hfz24_1
   try clear hfz26_0
   try clear hfz26_1
   try clear hfz30_0
   try clear hfz30_1
   try clear hfz32_0
   try clear hfz32_1
   try clear hfz35_0
   try clear hfz35_1
   try clear hfz37_0
   try clear hfz37_1
   obtain ⟨kq, x47_9, rfl, HA, HJ9, aa, ac, ad, HB⟩ := hcut
   cases kq with
   | zero => exact absurd HA.out (by simp [whirligiglaw10_WirePrefixes.j0])
   | succ bc =>
    have H := HA.out
    clear HA
    simp only [whirligiglaw10_WirePrefixes.j0] at H
    by_cases c38 : x47_9 = true
    ·subst c38
     have H1 : (some false) = some r := by rw [if_pos rfl] at H; exact H
     clear H
     have H := H1
     clear H1
     obtain rfl := Option.some.inj H
     go_wp2
     go_ret
     exact ⟨by first | rfl | (simp [errW_none, errW_some] <;> rfl) | (simp [*, errW_none, errW_some] <;> rfl), by repeat (first | (with_reducible first | exact HB.out | apply below_alloc | apply pw_below_drewN | apply below_drew1 | refine below_set ?_ ah.out | refine below_set ?_ ai.out | refine below_set ?_ aj.out) | exact HB.out)⟩
    ·replace c38 := Bool.eq_false_iff.mpr c38
     subst c38
     have H1 := H
     rw [if_neg (show ¬ (false = true) by decide)] at H1
     clear H
     have H := H1
     clear H1
     replace H := Option.bind_eq_some_iff.mp H
     obtain ⟨t166, A390, H⟩ := H
     (try dsimp only at H)
     have A39 := Aside0.mk A390
     clear A390
     replace H := Option.bind_eq_some_iff.mp H
     obtain ⟨⟨t169, t170, t171, t172⟩, A400, H⟩ := H
     (try dsimp only at H)
     have A40 := Aside0.mk A400
     clear A400
     by_cases c41 : t172 = 0
     ·rw [if_pos c41] at H
      have c41b0 : (t172 == 0) = true := beq_iff_eq.mpr c41
      have c41b1 : (t172 != 0) = false := bne_eq_false_iff_eq.mpr c41
      clear c41
      by_cases be : (t169 == ak && (t170 == al)) = true
      ·rw [if_pos be] at H
       have c42b0 : (t169 == ak && (t170 == al)) = true := be
       (try (have c42b1 : decide (t169 = ak && (t170 == al)) = true := by simpa using be))
       (try (have c42b2 : (t169 == ak && (t170 == al)) = true := by simpa using be))
       clear be
       by_cases c43 : t171 = (t166.length : Int)
       ·rw [if_pos c43] at H
        have c43b0 : (t171 == (t166.length : Int)) = true := beq_iff_eq.mpr c43
        have c43b1 : (t171 != (t166.length : Int)) = false := bne_eq_false_iff_eq.mpr c43
        clear c43
        replace H := Option.bind_eq_some_iff.mp H
        obtain ⟨t174, A440, H⟩ := H
        (try dsimp only at H)
        have bh := Aside0.mk A440
        clear A440
        by_cases c45 : (strOfNums l0).size + t174.size ≤ 9223372036854775807
        ·rw [if_pos c45] at H
         have c45b0 := eq_true c45
         have c45b1 : decide ((strOfNums l0).size + t174.size ≤ 9223372036854775807) = true := decide_eq_true c45
         try have c45b2 : (9223372036854775807 < (strOfNums l0).size + t174.size) = False := eq_false (Nat.not_lt.2 c45)
         by_cases c46 : (strOfNums t166).toList = ((strOfNums l0) ++ t174).toList
         ·rw [if_pos c46] at H
          have c46b0 : ((strOfNums t166).toList == ((strOfNums l0) ++ t174).toList) = true := beq_iff_eq.mpr c46
          have c46b1 : ((strOfNums t166).toList != ((strOfNums l0) ++ t174).toList) = false := bne_eq_false_iff_eq.mpr c46
          clear c46
          replace H := Option.bind_eq_some_iff.mp H
          obtain ⟨t175, A470, H⟩ := H
          replace H : (some t175) = some r := H
          have A47 := Aside0.mk A470
          clear A470
          obtain rfl := Option.some.inj H
          have hnb48 := av.out
          have hnc48 := az.out
          have hnb49 := au.out
          have hnc49 := a4.out
          have hcz50_0 : wc.cell? ⟨ag, 0, none⟩ = some (.int .u32 ak) := (blk_cell aa.out 0).trans rfl
          have hcz50_1 : wc.cell? ⟨ag, 1, none⟩ = some (.int .i64 al) := (blk_cell aa.out 1).trans rfl
          have hfz50_0 := blk_frozen aa.out 0
          have hfz50_1 := blk_frozen aa.out 1
          try go_wp2_with (first | ((with_reducible refine gate_callee (f := 12) rfl ?_); refine goesL_ (some 50) rfl rfl Try.func12 (by kernel_rfl) rfl #[.slice A0 l0.length c0, .agg #[.int .u32 ak, .int .i64 al]] rfl (by (try simp only [List.map_toArray, List.map_cons, List.map_nil]); first | done | rfl) ?_; (with_reducible refine (wire_Prefix.calls bc _ _ l0 ak al t166 _ ?side1 ?side2 A39.out).mono ?_); (case side1 => repeat (first | exact (Kd.C_below ba.out HB.out) | (with_reducible refine Kd.C_alloc ?_ _) | (with_reducible refine Kd.C_drewN ?_ _) | (with_reducible refine Kd.C_drew ?_))); (case side2 => exact bf.out); rintro e w51 ⟨v167, rfl, ho0, hb⟩; refine ⟨_, rfl, ?_⟩; have ae := Aside0.mk (Kd.R_lower ho0 (below_size (by repeat (first | (with_reducible first | exact HB.out | apply below_alloc | apply pw_below_drewN | apply below_drew1 | refine below_set ?_ ah.out | refine below_set ?_ ai.out | refine below_set ?_ aj.out) | exact HB.out)))); replace aa := Aside0.mk (k763a.q aa.out hb rfl); replace ac := Aside0.mk (k763a.q ac.out hb rfl); replace ad := Aside0.mk (k763a.q ad.out hb rfl); replace HB := Aside0.mk (below_step (by repeat (first | (with_reducible first | exact HB.out | apply below_alloc | apply pw_below_drewN | apply below_drew1 | refine below_set ?_ ah.out | refine below_set ?_ ai.out | refine below_set ?_ aj.out) | exact HB.out)) hb); (try clear hb); (try clear bb); (try clear hk); (try clear hi); (try clear ho0); obtain ⟨a6, a7, eo52⟩ := Kd.R_slice ae.out; subst eo52) | ((with_reducible refine gate_callee (f := 10) rfl ?_); refine goesL_ (some 55) rfl rfl Try.func10 (by kernel_rfl) rfl #[.slice a6 t166.length a7, .int .i64 (l0.length : Int)] rfl (by (try simp only [List.map_toArray, List.map_cons, List.map_nil]); first | done | rfl) ?_; (with_reducible refine (wire_Take.calls bc _ _ t166 (l0.length : Int) t169 t170 t171 t172 _ ?side1 ?side2 A40.out).mono ?_); (case side1 => repeat (first | exact (Kd.R_reads' ae.out).2.2 | (with_reducible refine Kd.C_alloc ?_ _) | (with_reducible refine Kd.C_drewN ?_ _) | (with_reducible refine Kd.C_drew ?_))); (case side2 => exact (Kd.R_reads' ae.out).2.1); rintro e w53 ⟨rfl, hb⟩; refine ⟨_, rfl, ?_⟩; replace ae := Aside0.mk (Kd.R_below (by (with_reducible repeat (first | apply Kd.R_alloc | apply Kd.R_drewN | apply Kd.R_drew)); exact ae.out) hb); replace aa := Aside0.mk (k763a.q aa.out hb rfl); replace ac := Aside0.mk (k763a.q ac.out hb rfl); replace ad := Aside0.mk (k763a.q ad.out hb rfl); replace HB := Aside0.mk (below_step (by repeat (first | (with_reducible first | exact HB.out | apply below_alloc | apply pw_below_drewN | apply below_drew1 | refine below_set ?_ ah.out | refine below_set ?_ ai.out | refine below_set ?_ aj.out) | exact HB.out)) hb); (try clear hb); (try clear bb); (try clear hk); (try clear hi)) | ((with_reducible refine gate_dst (N := 14) rfl ?_); (try (refine gate_guard (by rfl) ?_; dsimp only)); refine box_event ?hg (N := 14) ?hd (cs := #[.int .u32 0, .int .i64 0]) (t := 25) ?hr ?_; (case hd => rfl); (case hg => rfl); (case hr => first | (go_simp; done) | (go_simp; rfl)); intro ab hg w54 hbox hb; have n0_ := Aside0.mk (Kd.R_below (by (with_reducible repeat (first | apply Kd.R_alloc | apply Kd.R_drewN | apply Kd.R_drew)); exact ae.out) hb); have n1_ := Aside0.mk (k763a.q aa.out hb rfl); have n2_ := Aside0.mk (k763a.q ac.out hb rfl); have n3_ := Aside0.mk (k763a.q ad.out hb rfl); have n4_ := Aside0.mk (below_step (by repeat (first | (with_reducible first | exact HB.out | apply below_alloc | apply pw_below_drewN | apply below_drew1 | refine below_set ?_ ah.out | refine below_set ?_ ai.out | refine below_set ?_ aj.out) | exact HB.out)) hb); have n5_ := Aside0.mk (hbox); have n6_ := Aside0.mk ((by rw [hg]; exact (below_size (by repeat (first | (with_reducible first | exact HB.out | apply below_alloc | apply pw_below_drewN | apply below_drew1 | refine below_set ?_ ah.out | refine below_set ?_ ai.out | refine below_set ?_ aj.out) | exact HB.out))) : w.heap.size ≤ ab)); have n7_ := Aside0.mk ((by rw [hg]; exact (below_size (by repeat (first | (with_reducible first | exact HB.out | apply below_alloc | apply pw_below_drewN | apply below_drew1 | refine below_set ?_ ah.out | refine below_set ?_ ai.out | refine below_set ?_ aj.out) | exact HB.out))) : w.heap.size ≤ ab)); have n8_ := Aside0.mk ((by rw [hg]; exact Nat.ne_of_lt (blk_lt (g := ag) (o := .cells #[.int .u32 ak, .int .i64 al] 25 (0, 0)) (by (with_reducible repeat (first | refine blk_drewN ?_ _ | refine blk_drew ?_ | refine blk_alloc ?_ _)); exact aa.out)) : ag ≠ ab)); have n9_ := Aside0.mk ((by rw [hg]; exact Nat.ne_of_gt (blk_lt (g := ag) (o := .cells #[.int .u32 ak, .int .i64 al] 25 (0, 0)) (by (with_reducible repeat (first | refine blk_drewN ?_ _ | refine blk_drew ?_ | refine blk_alloc ?_ _)); exact aa.out)) : ab ≠ ag)); have n10_ := Aside0.mk ((by rw [hg]; exact Nat.ne_of_lt (blk_lt (g := am) (o := .cells #[.int .u32 t156, .int .i64 t157] 25 (0, 0)) (by (with_reducible repeat (first | refine blk_drewN ?_ _ | refine blk_drew ?_ | refine blk_alloc ?_ _)); exact ac.out)) : am ≠ ab)); have n11_ := Aside0.mk ((by rw [hg]; exact Nat.ne_of_gt (blk_lt (g := am) (o := .cells #[.int .u32 t156, .int .i64 t157] 25 (0, 0)) (by (with_reducible repeat (first | refine blk_drewN ?_ _ | refine blk_drew ?_ | refine blk_alloc ?_ _)); exact ac.out)) : ab ≠ am)); have n12_ := Aside0.mk ((by rw [hg]; exact Nat.ne_of_lt (blk_lt (g := an) (o := .cells #[.int .u32 t161, .int .i64 t162] 25 (0, 0)) (by (with_reducible repeat (first | refine blk_drewN ?_ _ | refine blk_drew ?_ | refine blk_alloc ?_ _)); exact ad.out)) : an ≠ ab)); have n13_ := Aside0.mk ((by rw [hg]; exact Nat.ne_of_gt (blk_lt (g := an) (o := .cells #[.int .u32 t161, .int .i64 t162] 25 (0, 0)) (by (with_reducible repeat (first | refine blk_drewN ?_ _ | refine blk_drew ?_ | refine blk_alloc ?_ _)); exact ad.out)) : ab ≠ an)); clear ae; clear aa; clear ac; clear ad; clear HB; have ae := n0_; have aa := n1_; have ac := n2_; have ad := n3_; have HB := n4_; have af := n5_; have GW173 := n6_; have ao := n7_; have ap := n8_; have aw := n9_; have aq := n10_; have ax := n11_; have ar := n12_; have ay := n13_; clear n0_ n1_ n2_ n3_ n4_ n5_ n6_ n7_ n8_ n9_ n10_ n11_ n12_ n13_; clear hb hbox hg; have hnb55 := aw.out; have hnc55 := ap.out; have hnb56 := ax.out; have hnc56 := aq.out; have hnb57 := ay.out; have hnc57 := ar.out; have hcz58_0 : w54.cell? ⟨ab, 0, none⟩ = some (.int .u32 0) := (blk_cell af.out 0).trans rfl; have hcz58_1 : w54.cell? ⟨ab, 1, none⟩ = some (.int .i64 0) := (blk_cell af.out 1).trans rfl; have hfz58_0 := blk_frozen af.out 0; have hfz58_1 := blk_frozen af.out 1))
          have n0_ : Aside0 (Kd.R (Kd.int .u8) 5 ((w54.setCell ⟨ab, 0, none⟩ (.int .u32 t169)).setCell ⟨ab, 1, none⟩ (.int .i64 t170)) w.heap.size (fun _ => True) (.slice a6 t166.length a7) t166) := ⟨by (with_reducible repeat (first | apply Kd.R_alloc | apply Kd.R_drewN | apply Kd.R_drew)); exact Kd.R_mono (Kd.R_far (p := ⟨ab, 1, none⟩) (Kd.R_far (p := ⟨ab, 0, none⟩) (Kd.R_types ae.out af.out (by decide)) (fun _ hk => hk.2) (.int .u32 t169)) (fun _ hk => hk.2) (.int .i64 t170)) (fun _ hk => trivial)⟩
          have n1_ : Aside0 (((w54.setCell ⟨ab, 0, none⟩ (.int .u32 t169)).setCell ⟨ab, 1, none⟩ (.int .i64 t170)).heap[ag]? = some (.cells #[.int .u32 ak, .int .i64 al] 25 (0, 0))) := ⟨by (with_reducible repeat (first | refine blk_drewN ?_ _ | refine blk_drew ?_ | refine blk_alloc ?_ _)); refine blk_far ?_ ap.out _; (with_reducible repeat (first | refine blk_drewN ?_ _ | refine blk_drew ?_ | refine blk_alloc ?_ _)); refine blk_far ?_ ap.out _; (with_reducible repeat (first | refine blk_drewN ?_ _ | refine blk_drew ?_ | refine blk_alloc ?_ _)); exact aa.out⟩
          have n2_ : Aside0 (((w54.setCell ⟨ab, 0, none⟩ (.int .u32 t169)).setCell ⟨ab, 1, none⟩ (.int .i64 t170)).heap[am]? = some (.cells #[.int .u32 t156, .int .i64 t157] 25 (0, 0))) := ⟨by (with_reducible repeat (first | refine blk_drewN ?_ _ | refine blk_drew ?_ | refine blk_alloc ?_ _)); refine blk_far ?_ aq.out _; (with_reducible repeat (first | refine blk_drewN ?_ _ | refine blk_drew ?_ | refine blk_alloc ?_ _)); refine blk_far ?_ aq.out _; (with_reducible repeat (first | refine blk_drewN ?_ _ | refine blk_drew ?_ | refine blk_alloc ?_ _)); exact ac.out⟩
          have n3_ : Aside0 (((w54.setCell ⟨ab, 0, none⟩ (.int .u32 t169)).setCell ⟨ab, 1, none⟩ (.int .i64 t170)).heap[an]? = some (.cells #[.int .u32 t161, .int .i64 t162] 25 (0, 0))) := ⟨by (with_reducible repeat (first | refine blk_drewN ?_ _ | refine blk_drew ?_ | refine blk_alloc ?_ _)); refine blk_far ?_ ar.out _; (with_reducible repeat (first | refine blk_drewN ?_ _ | refine blk_drew ?_ | refine blk_alloc ?_ _)); refine blk_far ?_ ar.out _; (with_reducible repeat (first | refine blk_drewN ?_ _ | refine blk_drew ?_ | refine blk_alloc ?_ _)); exact ad.out⟩
          have n4_ : Aside0 (((w54.setCell ⟨ab, 0, none⟩ (.int .u32 t169)).setCell ⟨ab, 1, none⟩ (.int .i64 t170)).heap[ab]? = some (.cells #[.int .u32 t169, .int .i64 t170] 25 (0, 0))) := ⟨by (with_reducible repeat (first | refine blk_drewN ?_ _ | refine blk_drew ?_ | refine blk_alloc ?_ _)); refine blk_put (cs := #[.int .u32 t169, .int .i64 0]) ?_ 1 _ (by first | rfl | (simp; done) | (simp; omega)); (with_reducible repeat (first | refine blk_drewN ?_ _ | refine blk_drew ?_ | refine blk_alloc ?_ _)); refine blk_put (cs := #[.int .u32 0, .int .i64 0]) ?_ 0 _ (by first | rfl | (simp; done) | (simp; omega)); (with_reducible repeat (first | refine blk_drewN ?_ _ | refine blk_drew ?_ | refine blk_alloc ?_ _)); exact af.out⟩
          have n5_ : Aside0 (Below w.heap.size w ((w54.setCell ⟨ab, 0, none⟩ (.int .u32 t169)).setCell ⟨ab, 1, none⟩ (.int .i64 t170))) := ⟨by repeat (first | (with_reducible first | exact HB.out | apply below_alloc | apply pw_below_drewN | apply below_drew1 | refine below_set ?_ ah.out | refine below_set ?_ ai.out | refine below_set ?_ aj.out | refine below_set ?_ ao.out) | exact HB.out)⟩
          (try clear ae)
          (try clear aa)
          (try clear ac)
          (try clear ad)
          (try clear af)
          (try clear HB)
          generalize ((w54.setCell ⟨ab, 0, none⟩ (.int .u32 t169)).setCell ⟨ab, 1, none⟩ (.int .i64 t170)) = w59 at n0_ n1_ n2_ n3_ n4_ n5_ ⊢
          have ae := n0_
          have aa := n1_
          have ac := n2_
          have ad := n3_
          have af := n4_
          have HB := n5_
          clear n0_ n1_ n2_ n3_ n4_ n5_
          replace ae := Aside0.mk (Kd.R_drew ae.out)
          replace aa := Aside0.mk (blk_drew aa.out)
          replace ac := Aside0.mk (blk_drew ac.out)
          replace ad := Aside0.mk (blk_drew ad.out)
          replace af := Aside0.mk (blk_drew af.out)
          replace HB := Aside0.mk (below_drew1 HB.out)
          refine start_ (n := 23) (S := k763a.S0 ab ag (.int .u32 t169) (.int .i64 t170) (.int .u32 ak) (.int .i64 al)) (ds := []) #[false, false, false, false, false, false, false, false, false, false, false, false, false, false, false, false, false, false, false, false, false, false, false] (by kernel_rfl) rfl rfl (k763a.b2 af.out (k763a.b2e aa.out)) (fun hHeld => ?_); refine with_tabW whirligiglaw10_WirePrefixes.tab11 whirligiglaw10_WirePrefixes.bits11 (fun HT_ HW_ => ?_)
          generalize w59.drew = w60 at ae aa ac ad af HB hHeld ⊢
          refine take_ (i := 0) (N := some 76) (v := ?_) (a' := ?_) #[true, false, false, false, false, false, false, false, false, false, false, false, false, false, false, false, false, false, false, false, false, false, false] rfl rfl (take_ofW HT_.out HW_.out (by kernel_rfl)) (fun _ _ _ h => h) (Or.inl ⟨by rfl, ?_⟩) hHeld ?_ ?_
          rotate_left
          ·rintro w' ⟨s0, s1, s2, s3⟩
           go_simp
           with_reducible rfl
          rotate_left
          ·simp only [Act.put, List.setIfInBounds_toArray, List.set_cons_zero, List.set_cons_succ, i64_w]
           rfl
          refine take_ (i := 1) (N := some 77) (v := ?_) (a' := ?_) #[true, true, false, false, false, false, false, false, false, false, false, false, false, false, false, false, false, false, false, false, false, false, false] rfl rfl (take_ofW HT_.out HW_.out (by kernel_rfl)) (fun _ _ _ h => h) (Or.inl ⟨by rfl, ?_⟩) hHeld ?_ ?_
          rotate_left
          ·rintro w' ⟨s0, s1, s2, s3⟩
           go_simp
           with_reducible rfl
          rotate_left
          ·simp only [Act.put, List.setIfInBounds_toArray, List.set_cons_zero, List.set_cons_succ, i64_w]
           rfl
          refine pure_ (i := 2) (N := some 78) (v := ?_) (a' := ?_) #[true, true, true, false, false, false, false, false, false, false, false, false, false, false, false, false, false, false, false, false, false, false, false] rfl rfl (any_of HT_.out (by kernel_rfl)) (fun _ _ _ h => h) (Or.inl ⟨by rfl, ?_⟩) ?_ ?_
          rotate_left
          ·intro w'
           go_simp
           with_reducible rfl
          rotate_left
          ·simp only [Act.put, List.setIfInBounds_toArray, List.set_cons_zero, List.set_cons_succ, i64_w]
           rfl
          refine pure_ (i := 3) (N := some 79) (v := ?_) (a' := ?_) #[true, true, true, true, false, false, false, false, false, false, false, false, false, false, false, false, false, false, false, false, false, false, false] rfl rfl (any_of HT_.out (by kernel_rfl)) (fun _ _ _ h => h) (Or.inl ⟨by rfl, ?_⟩) ?_ ?_
          rotate_left
          ·intro w'
           go_simp
           with_reducible rfl
          rotate_left
          ·simp only [Act.put, List.setIfInBounds_toArray, List.set_cons_zero, List.set_cons_succ, i64_w]
           rfl
          refine pure_ (i := 4) (N := some 80) (v := ?_) (a' := ?_) #[true, true, true, true, true, false, false, false, false, false, false, false, false, false, false, false, false, false, false, false, false, false, false] rfl rfl (any_of HT_.out (by kernel_rfl)) (fun _ _ _ h => h) (Or.inl ⟨by rfl, ?_⟩) ?_ ?_
          rotate_left
          ·intro w'
           go_simp
           with_reducible rfl
          rotate_left
          ·simp only [Act.put, List.setIfInBounds_toArray, List.set_cons_zero, List.set_cons_succ, i64_w]
           rfl
          refine pure_ (i := 5) (N := some 81) (v := ?_) (a' := ?_) #[true, true, true, true, true, true, false, false, false, false, false, false, false, false, false, false, false, false, false, false, false, false, false] rfl rfl (any_of HT_.out (by kernel_rfl)) (fun _ _ _ h => h) (Or.inl ⟨by rfl, ?_⟩) ?_ ?_
          rotate_left
          ·intro w'
           go_simp
           with_reducible rfl
          rotate_left
          ·simp only [Act.put, List.setIfInBounds_toArray, List.set_cons_zero, List.set_cons_succ, i64_w]
           rfl
          refine pure_ (i := 6) (N := some 82) (v := ?_) (a' := ?_) #[true, true, true, true, true, true, true, false, false, false, false, false, false, false, false, false, false, false, false, false, false, false, false] rfl rfl (any_of HT_.out (by kernel_rfl)) (fun _ _ _ h => h) (Or.inl ⟨by rfl, ?_⟩) ?_ ?_
          rotate_left
          ·intro w'
           go_simp
           with_reducible rfl
          rotate_left
          ·simp only [Act.put, List.setIfInBounds_toArray, List.set_cons_zero, List.set_cons_succ, i64_w]
           rfl
          refine pure_ (i := 7) (N := some 83) (v := ?_) (a' := ?_) #[true, true, true, true, true, true, true, true, false, false, false, false, false, false, false, false, false, false, false, false, false, false, false] rfl rfl (any_of HT_.out (by kernel_rfl)) (fun _ _ _ h => h) (Or.inl ⟨by rfl, ?_⟩) ?_ ?_
          rotate_left
          ·intro w'
           go_simp
           with_reducible rfl
          rotate_left
          ·simp only [Act.put, List.setIfInBounds_toArray, List.set_cons_zero, List.set_cons_succ, i64_w]
           rfl
          refine pure_ (i := 8) (N := some 84) (v := ?_) (a' := ?_) #[true, true, true, true, true, true, true, true, true, false, false, false, false, false, false, false, false, false, false, false, false, false, false] rfl rfl (any_of HT_.out (by kernel_rfl)) (fun _ _ _ h => h) (Or.inl ⟨by rfl, ?_⟩) ?_ ?_
          rotate_left
          ·intro w'
           go_simp
           with_reducible rfl
          rotate_left
          ·simp only [Act.put, List.setIfInBounds_toArray, List.set_cons_zero, List.set_cons_succ, i64_w]
           rfl
          refine pure_ (i := 9) (N := some 85) (v := ?_) (a' := ?_) #[true, true, true, true, true, true, true, true, true, true, false, false, false, false, false, false, false, false, false, false, false, false, false] rfl rfl (any_of HT_.out (by kernel_rfl)) (fun _ _ _ h => h) (Or.inl ⟨by rfl, ?_⟩) ?_ ?_
          rotate_left
          ·intro w'
           go_simp
           with_reducible rfl
          rotate_left
          ·simp only [Act.put, List.setIfInBounds_toArray, List.set_cons_zero, List.set_cons_succ, i64_w]
           rfl
          refine pure_ (i := 10) (N := some 86) (v := ?_) (a' := ?_) #[true, true, true, true, true, true, true, true, true, true, true, false, false, false, false, false, false, false, false, false, false, false, false] rfl rfl (any_of HT_.out (by kernel_rfl)) (fun _ _ _ h => h) (Or.inl ⟨by rfl, ?_⟩) ?_ ?_
          rotate_left
          ·intro w'
           go_simp
           with_reducible rfl
          rotate_left
          ·simp only [Act.put, List.setIfInBounds_toArray, List.set_cons_zero, List.set_cons_succ, i64_w]
           rfl
          refine pure_ (i := 12) (N := some 88) (v := ?_) (a' := ?_) #[true, true, true, true, true, true, true, true, true, true, true, false, true, false, false, false, false, false, false, false, false, false, false] rfl rfl (any_of HT_.out (by kernel_rfl)) (fun _ _ _ h => h) (Or.inl ⟨by rfl, ?_⟩) ?_ ?_
          rotate_left
          ·intro w'
           go_simp
           with_reducible rfl
          rotate_left
          ·simp only [Act.put, List.setIfInBounds_toArray, List.set_cons_zero, List.set_cons_succ, i64_w]
           rfl
          refine take_ (i := 14) (N := some 90) (v := ?_) (a' := ?_) #[true, true, true, true, true, true, true, true, true, true, true, false, true, false, true, false, false, false, false, false, false, false, false] rfl rfl (take_ofW HT_.out HW_.out (by kernel_rfl)) (fun _ _ _ h => h) (Or.inl ⟨by rfl, ?_⟩) hHeld ?_ ?_
          rotate_left
          ·rintro w' ⟨s0, s1, s2, s3⟩
           go_simp
           with_reducible rfl
          rotate_left
          ·simp only [Act.put, List.setIfInBounds_toArray, List.set_cons_zero, List.set_cons_succ, i64_w]
           rfl
          refine join_ (σ := Unit) 6 #[true, true, true, true, true, true, true, true, true, true, true, true, true, true, true, true, true, false, false, false, false, false, false] (fun s_ => [(87, .string (strOfNums t166)), (89, .string (strOfNums l0)), (91, .string t174), (92, .string ((strOfNums l0) ++ t174))]) (fun s_ w' => (w'.cell? ⟨ab, 0, none⟩ = some (.int .u32 t169) ∧ w'.cell? ⟨ab, 1, none⟩ = some (.int .i64 t170) ∧ w'.cell? ⟨ag, 0, none⟩ = some (.int .u32 ak) ∧ w'.cell? ⟨ag, 1, none⟩ = some (.int .i64 al)) ∧ (Kd.R (Kd.int .u8) 5 w' w.heap.size (fun _ => True) (.slice a6 t166.length a7) t166) ∧ (w'.heap[ag]? = some (.cells #[.int .u32 ak, .int .i64 al] 25 (0, 0))) ∧ (w'.heap[am]? = some (.cells #[.int .u32 t156, .int .i64 t157] 25 (0, 0))) ∧ (w'.heap[an]? = some (.cells #[.int .u32 t161, .int .i64 t162] 25 (0, 0))) ∧ (w'.heap[ab]? = some (.cells #[.int .u32 t169, .int .i64 t170] 25 (0, 0))) ∧ (Below w.heap.size w w')) ?_ ?_
          rotate_left
          ·intro hJ11_13_15
           refine join_ (σ := Unit) 8 #[true, true, true, true, true, true, true, true, true, true, true, true, true, true, true, false, false, false, false, false, false, false, false] (fun s_ => [(87, .string (strOfNums t166)), (89, .string (strOfNums l0))]) (fun s_ w' => (w'.cell? ⟨ab, 0, none⟩ = some (.int .u32 t169) ∧ w'.cell? ⟨ab, 1, none⟩ = some (.int .i64 t170) ∧ w'.cell? ⟨ag, 0, none⟩ = some (.int .u32 ak) ∧ w'.cell? ⟨ag, 1, none⟩ = some (.int .i64 al)) ∧ (Kd.R (Kd.int .u8) 5 w' w.heap.size (fun _ => True) (.slice a6 t166.length a7) t166) ∧ (w'.heap[ag]? = some (.cells #[.int .u32 ak, .int .i64 al] 25 (0, 0))) ∧ (w'.heap[am]? = some (.cells #[.int .u32 t156, .int .i64 t157] 25 (0, 0))) ∧ (w'.heap[an]? = some (.cells #[.int .u32 t161, .int .i64 t162] 25 (0, 0))) ∧ (w'.heap[ab]? = some (.cells #[.int .u32 t169, .int .i64 t170] 25 (0, 0))) ∧ (Below w.heap.size w w')) ?_ ?_
           rotate_left
           ·intro hJ11_13
            refine join_ (σ := Unit) 8 #[true, true, true, true, true, true, true, true, true, true, true, true, true, false, true, true, false, false, false, false, false, false, false] (fun s_ => [(87, .string (strOfNums t166)), (91, .string t174)]) (fun s_ w' => (w'.cell? ⟨ab, 0, none⟩ = some (.int .u32 t169) ∧ w'.cell? ⟨ab, 1, none⟩ = some (.int .i64 t170) ∧ w'.cell? ⟨ag, 0, none⟩ = some (.int .u32 ak) ∧ w'.cell? ⟨ag, 1, none⟩ = some (.int .i64 al)) ∧ (Kd.R (Kd.int .u8) 5 w' w.heap.size (fun _ => True) (.slice a6 t166.length a7) t166) ∧ (w'.heap[ag]? = some (.cells #[.int .u32 ak, .int .i64 al] 25 (0, 0))) ∧ (w'.heap[am]? = some (.cells #[.int .u32 t156, .int .i64 t157] 25 (0, 0))) ∧ (w'.heap[an]? = some (.cells #[.int .u32 t161, .int .i64 t162] 25 (0, 0))) ∧ (w'.heap[ab]? = some (.cells #[.int .u32 t169, .int .i64 t170] 25 (0, 0))) ∧ (Below w.heap.size w w')) ?_ ?_
            rotate_left
            ·intro hJ11_15
             refine join_ (σ := Unit) 7 #[true, true, true, true, true, true, true, true, true, true, true, false, true, true, true, true, true, false, false, false, false, false, false] (fun s_ => [(89, .string (strOfNums l0)), (91, .string t174), (92, .string ((strOfNums l0) ++ t174))]) (fun s_ w' => (w'.cell? ⟨ab, 0, none⟩ = some (.int .u32 t169) ∧ w'.cell? ⟨ab, 1, none⟩ = some (.int .i64 t170) ∧ w'.cell? ⟨ag, 0, none⟩ = some (.int .u32 ak) ∧ w'.cell? ⟨ag, 1, none⟩ = some (.int .i64 al)) ∧ (Kd.R (Kd.int .u8) 5 w' w.heap.size (fun _ => True) (.slice a6 t166.length a7) t166) ∧ (w'.heap[ag]? = some (.cells #[.int .u32 ak, .int .i64 al] 25 (0, 0))) ∧ (w'.heap[am]? = some (.cells #[.int .u32 t156, .int .i64 t157] 25 (0, 0))) ∧ (w'.heap[an]? = some (.cells #[.int .u32 t161, .int .i64 t162] 25 (0, 0))) ∧ (w'.heap[ab]? = some (.cells #[.int .u32 t169, .int .i64 t170] 25 (0, 0))) ∧ (Below w.heap.size w w')) ?_ ?_
             rotate_left
             ·intro hJ13_15
              refine join_ (σ := Unit) 9 #[true, true, true, true, true, true, true, true, true, true, true, true, true, false, true, false, false, false, false, false, false, false, false] (fun s_ => [(87, .string (strOfNums t166))]) (fun s_ w' => (w'.cell? ⟨ab, 0, none⟩ = some (.int .u32 t169) ∧ w'.cell? ⟨ab, 1, none⟩ = some (.int .i64 t170) ∧ w'.cell? ⟨ag, 0, none⟩ = some (.int .u32 ak) ∧ w'.cell? ⟨ag, 1, none⟩ = some (.int .i64 al)) ∧ (Kd.R (Kd.int .u8) 5 w' w.heap.size (fun _ => True) (.slice a6 t166.length a7) t166) ∧ (w'.heap[ag]? = some (.cells #[.int .u32 ak, .int .i64 al] 25 (0, 0))) ∧ (w'.heap[am]? = some (.cells #[.int .u32 t156, .int .i64 t157] 25 (0, 0))) ∧ (w'.heap[an]? = some (.cells #[.int .u32 t161, .int .i64 t162] 25 (0, 0))) ∧ (w'.heap[ab]? = some (.cells #[.int .u32 t169, .int .i64 t170] 25 (0, 0))) ∧ (Below w.heap.size w w')) ?_ ?_
              rotate_left
              ·intro hJ11
               refine join_ (σ := Unit) 9 #[true, true, true, true, true, true, true, true, true, true, true, false, true, true, true, false, false, false, false, false, false, false, false] (fun s_ => [(89, .string (strOfNums l0))]) (fun s_ w' => (w'.cell? ⟨ab, 0, none⟩ = some (.int .u32 t169) ∧ w'.cell? ⟨ab, 1, none⟩ = some (.int .i64 t170) ∧ w'.cell? ⟨ag, 0, none⟩ = some (.int .u32 ak) ∧ w'.cell? ⟨ag, 1, none⟩ = some (.int .i64 al)) ∧ (Kd.R (Kd.int .u8) 5 w' w.heap.size (fun _ => True) (.slice a6 t166.length a7) t166) ∧ (w'.heap[ag]? = some (.cells #[.int .u32 ak, .int .i64 al] 25 (0, 0))) ∧ (w'.heap[am]? = some (.cells #[.int .u32 t156, .int .i64 t157] 25 (0, 0))) ∧ (w'.heap[an]? = some (.cells #[.int .u32 t161, .int .i64 t162] 25 (0, 0))) ∧ (w'.heap[ab]? = some (.cells #[.int .u32 t169, .int .i64 t170] 25 (0, 0))) ∧ (Below w.heap.size w w')) ?_ ?_
               rotate_left
               ·intro hJ13
                refine join_ (σ := Unit) 9 #[true, true, true, true, true, true, true, true, true, true, true, false, true, false, true, true, false, false, false, false, false, false, false] (fun s_ => [(91, .string t174)]) (fun s_ w' => (w'.cell? ⟨ab, 0, none⟩ = some (.int .u32 t169) ∧ w'.cell? ⟨ab, 1, none⟩ = some (.int .i64 t170) ∧ w'.cell? ⟨ag, 0, none⟩ = some (.int .u32 ak) ∧ w'.cell? ⟨ag, 1, none⟩ = some (.int .i64 al)) ∧ (Kd.R (Kd.int .u8) 5 w' w.heap.size (fun _ => True) (.slice a6 t166.length a7) t166) ∧ (w'.heap[ag]? = some (.cells #[.int .u32 ak, .int .i64 al] 25 (0, 0))) ∧ (w'.heap[am]? = some (.cells #[.int .u32 t156, .int .i64 t157] 25 (0, 0))) ∧ (w'.heap[an]? = some (.cells #[.int .u32 t161, .int .i64 t162] 25 (0, 0))) ∧ (w'.heap[ab]? = some (.cells #[.int .u32 t169, .int .i64 t170] 25 (0, 0))) ∧ (Below w.heap.size w w')) ?_ ?_
                rotate_left
                ·intro hJ15
                 refine three_ (i := 11) (j := 13) (k := 15) (Ni := some 87) (Nj := some 89) (Nk := some 91) #[true, true, true, true, true, true, true, true, true, true, true, true, true, false, true, false, false, false, false, false, false, false, false] #[true, true, true, true, true, true, true, true, true, true, true, false, true, true, true, false, false, false, false, false, false, false, false] #[true, true, true, true, true, true, true, true, true, true, true, false, true, false, true, true, false, false, false, false, false, false, false] rfl rfl rfl rfl rfl rfl (three_of HT_.out (by kernel_rfl)) (by decide) (by decide) (by decide) (fun K hK => ?_) (fun K hK => ?_) (fun K hK => ?_)
                 ·skip
                  have hcv61 := own_string (P := Try.prog) Try.underlying22 Try.underlying5 Try.underlying9 (Kd.own_of_R ae.out)
                  refine value_ (w1 := ?_) (v := ?_) (by rfl) rfl ?_ ?_
                  rotate_left 2
                  ·go_simp
                   constructor
                   ·rfl
                   ·rfl
                  clear hcv61
                  refine hK.out _ _ (k763a.b2 af.out (k763a.b2e aa.out)) (fun hHeld => ?_)
                  clear hK K
                  refine norm_ (a' := ?_) ?_ ?_
                  rotate_left
                  ·show Act.put _ (some 87) _ = _
                   simp only [Act.put, List.setIfInBounds_toArray, List.set_cons_zero, List.set_cons_succ, i64_w]
                   rfl
                  exact norm_ (by first | (simp only [putAll, Act.put, List.setIfInBounds_toArray, List.set_cons_zero, List.set_cons_succ]; done) | (simp only [putAll, Act.put, List.setIfInBounds_toArray, List.set_cons_zero, List.set_cons_succ]; rfl)) (hJ11 () _ ⟨hHeld, (by (with_reducible repeat (first | apply Kd.R_alloc | apply Kd.R_drewN | apply Kd.R_drew)); exact ae.out), (by (with_reducible repeat (first | refine blk_drewN ?_ _ | refine blk_drew ?_ | refine blk_alloc ?_ _)); exact aa.out), (by (with_reducible repeat (first | refine blk_drewN ?_ _ | refine blk_drew ?_ | refine blk_alloc ?_ _)); exact ac.out), (by (with_reducible repeat (first | refine blk_drewN ?_ _ | refine blk_drew ?_ | refine blk_alloc ?_ _)); exact ad.out), (by (with_reducible repeat (first | refine blk_drewN ?_ _ | refine blk_drew ?_ | refine blk_alloc ?_ _)); exact af.out), (by repeat (first | (with_reducible first | exact HB.out | apply below_alloc | apply pw_below_drewN | apply below_drew1 | refine below_set ?_ ah.out | refine below_set ?_ ai.out | refine below_set ?_ aj.out | refine below_set ?_ ao.out) | exact HB.out))⟩)
                 ·skip
                  have hcv61 := Kd.C_string (P := Try.prog) (A := A0) (c := c0) Try.underlying22 Try.underlying5 Try.underlying9 (Kd.C_below ba.out HB.out)
                  refine value_ (w1 := ?_) (v := ?_) (by rfl) rfl ?_ ?_
                  rotate_left 2
                  ·go_simp
                   constructor
                   ·rfl
                   ·rfl
                  clear hcv61
                  refine hK.out _ _ (k763a.b2 af.out (k763a.b2e aa.out)) (fun hHeld => ?_)
                  clear hK K
                  refine norm_ (a' := ?_) ?_ ?_
                  rotate_left
                  ·show Act.put _ (some 89) _ = _
                   simp only [Act.put, List.setIfInBounds_toArray, List.set_cons_zero, List.set_cons_succ, i64_w]
                   rfl
                  exact norm_ (by first | (simp only [putAll, Act.put, List.setIfInBounds_toArray, List.set_cons_zero, List.set_cons_succ]; done) | (simp only [putAll, Act.put, List.setIfInBounds_toArray, List.set_cons_zero, List.set_cons_succ]; rfl)) (hJ13 () _ ⟨hHeld, (by (with_reducible repeat (first | apply Kd.R_alloc | apply Kd.R_drewN | apply Kd.R_drew)); exact ae.out), (by (with_reducible repeat (first | refine blk_drewN ?_ _ | refine blk_drew ?_ | refine blk_alloc ?_ _)); exact aa.out), (by (with_reducible repeat (first | refine blk_drewN ?_ _ | refine blk_drew ?_ | refine blk_alloc ?_ _)); exact ac.out), (by (with_reducible repeat (first | refine blk_drewN ?_ _ | refine blk_drew ?_ | refine blk_alloc ?_ _)); exact ad.out), (by (with_reducible repeat (first | refine blk_drewN ?_ _ | refine blk_drew ?_ | refine blk_alloc ?_ _)); exact af.out), (by repeat (first | (with_reducible first | exact HB.out | apply below_alloc | apply pw_below_drewN | apply below_drew1 | refine below_set ?_ ah.out | refine below_set ?_ ai.out | refine below_set ?_ aj.out | refine below_set ?_ ao.out) | exact HB.out))⟩)
                 ·skip
                  refine goes_ Try.func13 (by kernel_rfl) rfl #[.agg #[.int .u32 ak, .int .i64 al]] (by rfl) rfl rfl (by (try simp only [List.map_toArray, List.map_cons, List.map_nil]); first | done | rfl) ?_
                  with_reducible refine (whirligigref10_Prefix.calls bc ak al t174 _ bh.out).mono ?_
                  rintro e w61 ⟨rfl, hb⟩
                  refine ⟨_, rfl, ?_⟩
                  replace ae := Aside0.mk (Kd.R_below (by (with_reducible repeat (first | apply Kd.R_alloc | apply Kd.R_drewN | apply Kd.R_drew)); exact ae.out) hb)
                  replace aa := Aside0.mk (k763a.q aa.out hb rfl)
                  replace ac := Aside0.mk (k763a.q ac.out hb rfl)
                  replace ad := Aside0.mk (k763a.q ad.out hb rfl)
                  replace af := Aside0.mk (k763a.q af.out hb rfl)
                  replace HB := Aside0.mk (below_step (by repeat (first | (with_reducible first | exact HB.out | apply below_alloc | apply pw_below_drewN | apply below_drew1 | refine below_set ?_ ah.out | refine below_set ?_ ai.out | refine below_set ?_ aj.out | refine below_set ?_ ao.out) | exact HB.out)) hb)
                  (try clear hb)
                  (try clear bb)
                  (try clear hk)
                  (try clear hi)
                  refine hK.out _ _ (k763a.b2 af.out (k763a.b2e aa.out)) (fun hHeld => ?_)
                  clear hK K
                  refine norm_ (a' := ?_) ?_ ?_
                  rotate_left
                  ·show Act.put _ (some 91) _ = _
                   simp only [Act.put, List.setIfInBounds_toArray, List.set_cons_zero, List.set_cons_succ, i64_w]
                   rfl
                  exact norm_ (by first | (simp only [putAll, Act.put, List.setIfInBounds_toArray, List.set_cons_zero, List.set_cons_succ]; done) | (simp only [putAll, Act.put, List.setIfInBounds_toArray, List.set_cons_zero, List.set_cons_succ]; rfl)) (hJ15 () _ ⟨hHeld, (by (with_reducible repeat (first | apply Kd.R_alloc | apply Kd.R_drewN | apply Kd.R_drew)); exact ae.out), (by (with_reducible repeat (first | refine blk_drewN ?_ _ | refine blk_drew ?_ | refine blk_alloc ?_ _)); exact aa.out), (by (with_reducible repeat (first | refine blk_drewN ?_ _ | refine blk_drew ?_ | refine blk_alloc ?_ _)); exact ac.out), (by (with_reducible repeat (first | refine blk_drewN ?_ _ | refine blk_drew ?_ | refine blk_alloc ?_ _)); exact ad.out), (by (with_reducible repeat (first | refine blk_drewN ?_ _ | refine blk_drew ?_ | refine blk_alloc ?_ _)); exact af.out), (by repeat (first | (with_reducible first | exact HB.out | apply below_alloc | apply pw_below_drewN | apply below_drew1 | refine below_set ?_ ah.out | refine below_set ?_ ai.out | refine below_set ?_ aj.out | refine below_set ?_ ao.out) | exact HB.out))⟩)
                ·skip
                 rintro _ w62 ⟨hS_, h0_, h1_, h2_, h3_, h4_, h5_⟩
                 have n0_ : Aside0 (Kd.R (Kd.int .u8) 5 w62 w.heap.size (fun _ => True) (.slice a6 t166.length a7) t166) := ⟨h0_⟩
                 have n1_ : Aside0 (w62.heap[ag]? = some (.cells #[.int .u32 ak, .int .i64 al] 25 (0, 0))) := ⟨h1_⟩
                 have n2_ : Aside0 (w62.heap[am]? = some (.cells #[.int .u32 t156, .int .i64 t157] 25 (0, 0))) := ⟨h2_⟩
                 have n3_ : Aside0 (w62.heap[an]? = some (.cells #[.int .u32 t161, .int .i64 t162] 25 (0, 0))) := ⟨h3_⟩
                 have n4_ : Aside0 (w62.heap[ab]? = some (.cells #[.int .u32 t169, .int .i64 t170] 25 (0, 0))) := ⟨h4_⟩
                 have n5_ : Aside0 (Below w.heap.size w w62) := ⟨h5_⟩
                 clear ae
                 clear aa
                 clear ac
                 clear ad
                 clear af
                 clear HB
                 clear h0_ h1_ h2_ h3_ h4_ h5_
                 have ae := n0_
                 have aa := n1_
                 have ac := n2_
                 have ad := n3_
                 have af := n4_
                 have HB := n5_
                 clear n0_ n1_ n2_ n3_ n4_ n5_
                 have hHeld : w62.cell? ⟨ab, 0, none⟩ = some (.int .u32 t169) ∧ w62.cell? ⟨ab, 1, none⟩ = some (.int .i64 t170) ∧ w62.cell? ⟨ag, 0, none⟩ = some (.int .u32 ak) ∧ w62.cell? ⟨ag, 1, none⟩ = some (.int .i64 al) := hS_
                 refine norm_ (a' := ?_) ?_ ?_
                 rotate_left
                 ·simp only [putAll, Act.put, List.setIfInBounds_toArray, List.set_cons_zero, List.set_cons_succ]
                  rfl
                 refine two_ (i := 11) (j := 13) (Ni := some 87) (Nj := some 89) #[true, true, true, true, true, true, true, true, true, true, true, true, true, false, true, true, false, false, false, false, false, false, false] #[true, true, true, true, true, true, true, true, true, true, true, false, true, true, true, true, false, false, false, false, false, false, false] rfl rfl rfl rfl (two_of HT_.out (by kernel_rfl)) (by decide) (by decide) (fun K hK => ?_) (fun K hK => ?_)
                 ·skip
                  have hcv63 := own_string (P := Try.prog) Try.underlying22 Try.underlying5 Try.underlying9 (Kd.own_of_R ae.out)
                  refine value_ (w1 := ?_) (v := ?_) (by rfl) rfl ?_ ?_
                  rotate_left 2
                  ·go_simp
                   constructor
                   ·rfl
                   ·rfl
                  clear hcv63
                  refine hK.out _ _ (k763a.b2 af.out (k763a.b2e aa.out)) (fun hHeld => ?_)
                  clear hK K
                  refine norm_ (a' := ?_) ?_ ?_
                  rotate_left
                  ·show Act.put _ (some 87) _ = _
                   simp only [Act.put, List.setIfInBounds_toArray, List.set_cons_zero, List.set_cons_succ, i64_w]
                   rfl
                  exact norm_ (by first | (simp only [putAll, Act.put, List.setIfInBounds_toArray, List.set_cons_zero, List.set_cons_succ]; done) | (simp only [putAll, Act.put, List.setIfInBounds_toArray, List.set_cons_zero, List.set_cons_succ]; rfl)) (hJ11_15 () _ ⟨hHeld, (by (with_reducible repeat (first | apply Kd.R_alloc | apply Kd.R_drewN | apply Kd.R_drew)); exact ae.out), (by (with_reducible repeat (first | refine blk_drewN ?_ _ | refine blk_drew ?_ | refine blk_alloc ?_ _)); exact aa.out), (by (with_reducible repeat (first | refine blk_drewN ?_ _ | refine blk_drew ?_ | refine blk_alloc ?_ _)); exact ac.out), (by (with_reducible repeat (first | refine blk_drewN ?_ _ | refine blk_drew ?_ | refine blk_alloc ?_ _)); exact ad.out), (by (with_reducible repeat (first | refine blk_drewN ?_ _ | refine blk_drew ?_ | refine blk_alloc ?_ _)); exact af.out), (by repeat (first | (with_reducible first | exact HB.out | apply below_alloc | apply pw_below_drewN | apply below_drew1 | refine below_set ?_ ah.out | refine below_set ?_ ai.out | refine below_set ?_ aj.out | refine below_set ?_ ao.out) | exact HB.out))⟩)
                 ·skip
                  have hcv63 := Kd.C_string (P := Try.prog) (A := A0) (c := c0) Try.underlying22 Try.underlying5 Try.underlying9 (Kd.C_below ba.out HB.out)
                  refine value_ (w1 := ?_) (v := ?_) (by rfl) rfl ?_ ?_
                  rotate_left 2
                  ·go_simp
                   constructor
                   ·rfl
                   ·rfl
                  clear hcv63
                  refine hK.out _ _ (k763a.b2 af.out (k763a.b2e aa.out)) (fun hHeld => ?_)
                  clear hK K
                  refine norm_ (a' := ?_) ?_ ?_
                  rotate_left
                  ·show Act.put _ (some 89) _ = _
                   simp only [Act.put, List.setIfInBounds_toArray, List.set_cons_zero, List.set_cons_succ, i64_w]
                   rfl
                  refine pure_ (i := 16) (N := some 92) (v := ?_) (a' := ?_) #[true, true, true, true, true, true, true, true, true, true, true, false, true, true, true, true, true, false, false, false, false, false, false] rfl rfl (any_of HT_.out (by kernel_rfl)) (fun _ _ _ h => h) (Or.inl ⟨by rfl, ?_⟩) ?_ ?_
                  rotate_left
                  ·intro w'
                   go_simp
                   with_reducible rfl
                  rotate_left
                  ·simp only [Act.put, List.setIfInBounds_toArray, List.set_cons_zero, List.set_cons_succ, i64_w]
                   rfl
                  exact norm_ (by first | (simp only [putAll, Act.put, List.setIfInBounds_toArray, List.set_cons_zero, List.set_cons_succ]; done) | (simp only [putAll, Act.put, List.setIfInBounds_toArray, List.set_cons_zero, List.set_cons_succ]; rfl)) (hJ13_15 () _ ⟨hHeld, (by (with_reducible repeat (first | apply Kd.R_alloc | apply Kd.R_drewN | apply Kd.R_drew)); exact ae.out), (by (with_reducible repeat (first | refine blk_drewN ?_ _ | refine blk_drew ?_ | refine blk_alloc ?_ _)); exact aa.out), (by (with_reducible repeat (first | refine blk_drewN ?_ _ | refine blk_drew ?_ | refine blk_alloc ?_ _)); exact ac.out), (by (with_reducible repeat (first | refine blk_drewN ?_ _ | refine blk_drew ?_ | refine blk_alloc ?_ _)); exact ad.out), (by (with_reducible repeat (first | refine blk_drewN ?_ _ | refine blk_drew ?_ | refine blk_alloc ?_ _)); exact af.out), (by repeat (first | (with_reducible first | exact HB.out | apply below_alloc | apply pw_below_drewN | apply below_drew1 | refine below_set ?_ ah.out | refine below_set ?_ ai.out | refine below_set ?_ aj.out | refine below_set ?_ ao.out) | exact HB.out))⟩)
               ·skip
                rintro _ w62 ⟨hS_, h0_, h1_, h2_, h3_, h4_, h5_⟩
                have n0_ : Aside0 (Kd.R (Kd.int .u8) 5 w62 w.heap.size (fun _ => True) (.slice a6 t166.length a7) t166) := ⟨h0_⟩
                have n1_ : Aside0 (w62.heap[ag]? = some (.cells #[.int .u32 ak, .int .i64 al] 25 (0, 0))) := ⟨h1_⟩
                have n2_ : Aside0 (w62.heap[am]? = some (.cells #[.int .u32 t156, .int .i64 t157] 25 (0, 0))) := ⟨h2_⟩
                have n3_ : Aside0 (w62.heap[an]? = some (.cells #[.int .u32 t161, .int .i64 t162] 25 (0, 0))) := ⟨h3_⟩
                have n4_ : Aside0 (w62.heap[ab]? = some (.cells #[.int .u32 t169, .int .i64 t170] 25 (0, 0))) := ⟨h4_⟩
                have n5_ : Aside0 (Below w.heap.size w w62) := ⟨h5_⟩
                clear ae
                clear aa
                clear ac
                clear ad
                clear af
                clear HB
                clear h0_ h1_ h2_ h3_ h4_ h5_
                have ae := n0_
                have aa := n1_
                have ac := n2_
                have ad := n3_
                have af := n4_
                have HB := n5_
                clear n0_ n1_ n2_ n3_ n4_ n5_
                have hHeld : w62.cell? ⟨ab, 0, none⟩ = some (.int .u32 t169) ∧ w62.cell? ⟨ab, 1, none⟩ = some (.int .i64 t170) ∧ w62.cell? ⟨ag, 0, none⟩ = some (.int .u32 ak) ∧ w62.cell? ⟨ag, 1, none⟩ = some (.int .i64 al) := hS_
                refine norm_ (a' := ?_) ?_ ?_
                rotate_left
                ·simp only [putAll, Act.put, List.setIfInBounds_toArray, List.set_cons_zero, List.set_cons_succ]
                 rfl
                refine two_ (i := 11) (j := 15) (Ni := some 87) (Nj := some 91) #[true, true, true, true, true, true, true, true, true, true, true, true, true, true, true, false, false, false, false, false, false, false, false] #[true, true, true, true, true, true, true, true, true, true, true, false, true, true, true, true, false, false, false, false, false, false, false] rfl rfl rfl rfl (two_of HT_.out (by kernel_rfl)) (by decide) (by decide) (fun K hK => ?_) (fun K hK => ?_)
                ·skip
                 have hcv63 := own_string (P := Try.prog) Try.underlying22 Try.underlying5 Try.underlying9 (Kd.own_of_R ae.out)
                 refine value_ (w1 := ?_) (v := ?_) (by rfl) rfl ?_ ?_
                 rotate_left 2
                 ·go_simp
                  constructor
                  ·rfl
                  ·rfl
                 clear hcv63
                 refine hK.out _ _ (k763a.b2 af.out (k763a.b2e aa.out)) (fun hHeld => ?_)
                 clear hK K
                 refine norm_ (a' := ?_) ?_ ?_
                 rotate_left
                 ·show Act.put _ (some 87) _ = _
                  simp only [Act.put, List.setIfInBounds_toArray, List.set_cons_zero, List.set_cons_succ, i64_w]
                  rfl
                 exact norm_ (by first | (simp only [putAll, Act.put, List.setIfInBounds_toArray, List.set_cons_zero, List.set_cons_succ]; done) | (simp only [putAll, Act.put, List.setIfInBounds_toArray, List.set_cons_zero, List.set_cons_succ]; rfl)) (hJ11_13 () _ ⟨hHeld, (by (with_reducible repeat (first | apply Kd.R_alloc | apply Kd.R_drewN | apply Kd.R_drew)); exact ae.out), (by (with_reducible repeat (first | refine blk_drewN ?_ _ | refine blk_drew ?_ | refine blk_alloc ?_ _)); exact aa.out), (by (with_reducible repeat (first | refine blk_drewN ?_ _ | refine blk_drew ?_ | refine blk_alloc ?_ _)); exact ac.out), (by (with_reducible repeat (first | refine blk_drewN ?_ _ | refine blk_drew ?_ | refine blk_alloc ?_ _)); exact ad.out), (by (with_reducible repeat (first | refine blk_drewN ?_ _ | refine blk_drew ?_ | refine blk_alloc ?_ _)); exact af.out), (by repeat (first | (with_reducible first | exact HB.out | apply below_alloc | apply pw_below_drewN | apply below_drew1 | refine below_set ?_ ah.out | refine below_set ?_ ai.out | refine below_set ?_ aj.out | refine below_set ?_ ao.out) | exact HB.out))⟩)
                ·skip
                 refine goes_ Try.func13 (by kernel_rfl) rfl #[.agg #[.int .u32 ak, .int .i64 al]] (by rfl) rfl rfl (by (try simp only [List.map_toArray, List.map_cons, List.map_nil]); first | done | rfl) ?_
                 with_reducible refine (whirligigref10_Prefix.calls bc ak al t174 _ bh.out).mono ?_
                 rintro e w63 ⟨rfl, hb⟩
                 refine ⟨_, rfl, ?_⟩
                 replace ae := Aside0.mk (Kd.R_below (by (with_reducible repeat (first | apply Kd.R_alloc | apply Kd.R_drewN | apply Kd.R_drew)); exact ae.out) hb)
                 replace aa := Aside0.mk (k763a.q aa.out hb rfl)
                 replace ac := Aside0.mk (k763a.q ac.out hb rfl)
                 replace ad := Aside0.mk (k763a.q ad.out hb rfl)
                 replace af := Aside0.mk (k763a.q af.out hb rfl)
                 replace HB := Aside0.mk (below_step (by repeat (first | (with_reducible first | exact HB.out | apply below_alloc | apply pw_below_drewN | apply below_drew1 | refine below_set ?_ ah.out | refine below_set ?_ ai.out | refine below_set ?_ aj.out | refine below_set ?_ ao.out) | exact HB.out)) hb)
                 (try clear hb)
                 (try clear bb)
                 (try clear hk)
                 (try clear hi)
                 refine hK.out _ _ (k763a.b2 af.out (k763a.b2e aa.out)) (fun hHeld => ?_)
                 clear hK K
                 refine norm_ (a' := ?_) ?_ ?_
                 rotate_left
                 ·show Act.put _ (some 91) _ = _
                  simp only [Act.put, List.setIfInBounds_toArray, List.set_cons_zero, List.set_cons_succ, i64_w]
                  rfl
                 refine pure_ (i := 16) (N := some 92) (v := ?_) (a' := ?_) #[true, true, true, true, true, true, true, true, true, true, true, false, true, true, true, true, true, false, false, false, false, false, false] rfl rfl (any_of HT_.out (by kernel_rfl)) (fun _ _ _ h => h) (Or.inl ⟨by rfl, ?_⟩) ?_ ?_
                 rotate_left
                 ·intro w'
                  go_simp
                  with_reducible rfl
                 rotate_left
                 ·simp only [Act.put, List.setIfInBounds_toArray, List.set_cons_zero, List.set_cons_succ, i64_w]
                  rfl
                 exact norm_ (by first | (simp only [putAll, Act.put, List.setIfInBounds_toArray, List.set_cons_zero, List.set_cons_succ]; done) | (simp only [putAll, Act.put, List.setIfInBounds_toArray, List.set_cons_zero, List.set_cons_succ]; rfl)) (hJ13_15 () _ ⟨hHeld, (by (with_reducible repeat (first | apply Kd.R_alloc | apply Kd.R_drewN | apply Kd.R_drew)); exact ae.out), (by (with_reducible repeat (first | refine blk_drewN ?_ _ | refine blk_drew ?_ | refine blk_alloc ?_ _)); exact aa.out), (by (with_reducible repeat (first | refine blk_drewN ?_ _ | refine blk_drew ?_ | refine blk_alloc ?_ _)); exact ac.out), (by (with_reducible repeat (first | refine blk_drewN ?_ _ | refine blk_drew ?_ | refine blk_alloc ?_ _)); exact ad.out), (by (with_reducible repeat (first | refine blk_drewN ?_ _ | refine blk_drew ?_ | refine blk_alloc ?_ _)); exact af.out), (by repeat (first | (with_reducible first | exact HB.out | apply below_alloc | apply pw_below_drewN | apply below_drew1 | refine below_set ?_ ah.out | refine below_set ?_ ai.out | refine below_set ?_ aj.out | refine below_set ?_ ao.out) | exact HB.out))⟩)
              ·skip
               rintro _ w62 ⟨hS_, h0_, h1_, h2_, h3_, h4_, h5_⟩
               have n0_ : Aside0 (Kd.R (Kd.int .u8) 5 w62 w.heap.size (fun _ => True) (.slice a6 t166.length a7) t166) := ⟨h0_⟩
               have n1_ : Aside0 (w62.heap[ag]? = some (.cells #[.int .u32 ak, .int .i64 al] 25 (0, 0))) := ⟨h1_⟩
               have n2_ : Aside0 (w62.heap[am]? = some (.cells #[.int .u32 t156, .int .i64 t157] 25 (0, 0))) := ⟨h2_⟩
               have n3_ : Aside0 (w62.heap[an]? = some (.cells #[.int .u32 t161, .int .i64 t162] 25 (0, 0))) := ⟨h3_⟩
               have n4_ : Aside0 (w62.heap[ab]? = some (.cells #[.int .u32 t169, .int .i64 t170] 25 (0, 0))) := ⟨h4_⟩
               have n5_ : Aside0 (Below w.heap.size w w62) := ⟨h5_⟩
               clear ae
               clear aa
               clear ac
               clear ad
               clear af
               clear HB
               clear h0_ h1_ h2_ h3_ h4_ h5_
               have ae := n0_
               have aa := n1_
               have ac := n2_
               have ad := n3_
               have af := n4_
               have HB := n5_
               clear n0_ n1_ n2_ n3_ n4_ n5_
               have hHeld : w62.cell? ⟨ab, 0, none⟩ = some (.int .u32 t169) ∧ w62.cell? ⟨ab, 1, none⟩ = some (.int .i64 t170) ∧ w62.cell? ⟨ag, 0, none⟩ = some (.int .u32 ak) ∧ w62.cell? ⟨ag, 1, none⟩ = some (.int .i64 al) := hS_
               refine norm_ (a' := ?_) ?_ ?_
               rotate_left
               ·simp only [putAll, Act.put, List.setIfInBounds_toArray, List.set_cons_zero, List.set_cons_succ]
                rfl
               refine two_ (i := 13) (j := 15) (Ni := some 89) (Nj := some 91) #[true, true, true, true, true, true, true, true, true, true, true, true, true, true, true, false, false, false, false, false, false, false, false] #[true, true, true, true, true, true, true, true, true, true, true, true, true, false, true, true, false, false, false, false, false, false, false] rfl rfl rfl rfl (two_of HT_.out (by kernel_rfl)) (by decide) (by decide) (fun K hK => ?_) (fun K hK => ?_)
               ·skip
                have hcv63 := Kd.C_string (P := Try.prog) (A := A0) (c := c0) Try.underlying22 Try.underlying5 Try.underlying9 (Kd.C_below ba.out HB.out)
                refine value_ (w1 := ?_) (v := ?_) (by rfl) rfl ?_ ?_
                rotate_left 2
                ·go_simp
                 constructor
                 ·rfl
                 ·rfl
                clear hcv63
                refine hK.out _ _ (k763a.b2 af.out (k763a.b2e aa.out)) (fun hHeld => ?_)
                clear hK K
                refine norm_ (a' := ?_) ?_ ?_
                rotate_left
                ·show Act.put _ (some 89) _ = _
                 simp only [Act.put, List.setIfInBounds_toArray, List.set_cons_zero, List.set_cons_succ, i64_w]
                 rfl
                exact norm_ (by first | (simp only [putAll, Act.put, List.setIfInBounds_toArray, List.set_cons_zero, List.set_cons_succ]; done) | (simp only [putAll, Act.put, List.setIfInBounds_toArray, List.set_cons_zero, List.set_cons_succ]; rfl)) (hJ11_13 () _ ⟨hHeld, (by (with_reducible repeat (first | apply Kd.R_alloc | apply Kd.R_drewN | apply Kd.R_drew)); exact ae.out), (by (with_reducible repeat (first | refine blk_drewN ?_ _ | refine blk_drew ?_ | refine blk_alloc ?_ _)); exact aa.out), (by (with_reducible repeat (first | refine blk_drewN ?_ _ | refine blk_drew ?_ | refine blk_alloc ?_ _)); exact ac.out), (by (with_reducible repeat (first | refine blk_drewN ?_ _ | refine blk_drew ?_ | refine blk_alloc ?_ _)); exact ad.out), (by (with_reducible repeat (first | refine blk_drewN ?_ _ | refine blk_drew ?_ | refine blk_alloc ?_ _)); exact af.out), (by repeat (first | (with_reducible first | exact HB.out | apply below_alloc | apply pw_below_drewN | apply below_drew1 | refine below_set ?_ ah.out | refine below_set ?_ ai.out | refine below_set ?_ aj.out | refine below_set ?_ ao.out) | exact HB.out))⟩)
               ·skip
                refine goes_ Try.func13 (by kernel_rfl) rfl #[.agg #[.int .u32 ak, .int .i64 al]] (by rfl) rfl rfl (by (try simp only [List.map_toArray, List.map_cons, List.map_nil]); first | done | rfl) ?_
                with_reducible refine (whirligigref10_Prefix.calls bc ak al t174 _ bh.out).mono ?_
                rintro e w63 ⟨rfl, hb⟩
                refine ⟨_, rfl, ?_⟩
                replace ae := Aside0.mk (Kd.R_below (by (with_reducible repeat (first | apply Kd.R_alloc | apply Kd.R_drewN | apply Kd.R_drew)); exact ae.out) hb)
                replace aa := Aside0.mk (k763a.q aa.out hb rfl)
                replace ac := Aside0.mk (k763a.q ac.out hb rfl)
                replace ad := Aside0.mk (k763a.q ad.out hb rfl)
                replace af := Aside0.mk (k763a.q af.out hb rfl)
                replace HB := Aside0.mk (below_step (by repeat (first | (with_reducible first | exact HB.out | apply below_alloc | apply pw_below_drewN | apply below_drew1 | refine below_set ?_ ah.out | refine below_set ?_ ai.out | refine below_set ?_ aj.out | refine below_set ?_ ao.out) | exact HB.out)) hb)
                (try clear hb)
                (try clear bb)
                (try clear hk)
                (try clear hi)
                refine hK.out _ _ (k763a.b2 af.out (k763a.b2e aa.out)) (fun hHeld => ?_)
                clear hK K
                refine norm_ (a' := ?_) ?_ ?_
                rotate_left
                ·show Act.put _ (some 91) _ = _
                 simp only [Act.put, List.setIfInBounds_toArray, List.set_cons_zero, List.set_cons_succ, i64_w]
                 rfl
                exact norm_ (by first | (simp only [putAll, Act.put, List.setIfInBounds_toArray, List.set_cons_zero, List.set_cons_succ]; done) | (simp only [putAll, Act.put, List.setIfInBounds_toArray, List.set_cons_zero, List.set_cons_succ]; rfl)) (hJ11_15 () _ ⟨hHeld, (by (with_reducible repeat (first | apply Kd.R_alloc | apply Kd.R_drewN | apply Kd.R_drew)); exact ae.out), (by (with_reducible repeat (first | refine blk_drewN ?_ _ | refine blk_drew ?_ | refine blk_alloc ?_ _)); exact aa.out), (by (with_reducible repeat (first | refine blk_drewN ?_ _ | refine blk_drew ?_ | refine blk_alloc ?_ _)); exact ac.out), (by (with_reducible repeat (first | refine blk_drewN ?_ _ | refine blk_drew ?_ | refine blk_alloc ?_ _)); exact ad.out), (by (with_reducible repeat (first | refine blk_drewN ?_ _ | refine blk_drew ?_ | refine blk_alloc ?_ _)); exact af.out), (by repeat (first | (with_reducible first | exact HB.out | apply below_alloc | apply pw_below_drewN | apply below_drew1 | refine below_set ?_ ah.out | refine below_set ?_ ai.out | refine below_set ?_ aj.out | refine below_set ?_ ao.out) | exact HB.out))⟩)
             ·skip
              rintro _ w63 ⟨hS_, h0_, h1_, h2_, h3_, h4_, h5_⟩
              have n0_ : Aside0 (Kd.R (Kd.int .u8) 5 w63 w.heap.size (fun _ => True) (.slice a6 t166.length a7) t166) := ⟨h0_⟩
              have n1_ : Aside0 (w63.heap[ag]? = some (.cells #[.int .u32 ak, .int .i64 al] 25 (0, 0))) := ⟨h1_⟩
              have n2_ : Aside0 (w63.heap[am]? = some (.cells #[.int .u32 t156, .int .i64 t157] 25 (0, 0))) := ⟨h2_⟩
              have n3_ : Aside0 (w63.heap[an]? = some (.cells #[.int .u32 t161, .int .i64 t162] 25 (0, 0))) := ⟨h3_⟩
              have n4_ : Aside0 (w63.heap[ab]? = some (.cells #[.int .u32 t169, .int .i64 t170] 25 (0, 0))) := ⟨h4_⟩
              have n5_ : Aside0 (Below w.heap.size w w63) := ⟨h5_⟩
              clear ae
              clear aa
              clear ac
              clear ad
              clear af
              clear HB
              clear h0_ h1_ h2_ h3_ h4_ h5_
              have ae := n0_
              have aa := n1_
              have ac := n2_
              have ad := n3_
              have af := n4_
              have HB := n5_
              clear n0_ n1_ n2_ n3_ n4_ n5_
              have hHeld : w63.cell? ⟨ab, 0, none⟩ = some (.int .u32 t169) ∧ w63.cell? ⟨ab, 1, none⟩ = some (.int .i64 t170) ∧ w63.cell? ⟨ag, 0, none⟩ = some (.int .u32 ak) ∧ w63.cell? ⟨ag, 1, none⟩ = some (.int .i64 al) := hS_
              refine norm_ (a' := ?_) ?_ ?_
              rotate_left
              ·simp only [putAll, Act.put, List.setIfInBounds_toArray, List.set_cons_zero, List.set_cons_succ]
               rfl
              refine one_ (i := 11) (N := some 87) #[true, true, true, true, true, true, true, true, true, true, true, true, true, true, true, true, true, false, false, false, false, false, false] rfl rfl (one_of HT_.out (by kernel_rfl)) (by decide) (fun K hK => ?_)
              have hcv64 := own_string (P := Try.prog) Try.underlying22 Try.underlying5 Try.underlying9 (Kd.own_of_R ae.out)
              refine value_ (w1 := ?_) (v := ?_) (by rfl) rfl ?_ ?_
              rotate_left 2
              ·go_simp
               constructor
               ·rfl
               ·rfl
              clear hcv64
              refine hK.out _ _ (k763a.b2 af.out (k763a.b2e aa.out)) (fun hHeld => ?_)
              clear hK K
              refine norm_ (a' := ?_) ?_ ?_
              rotate_left
              ·show Act.put _ (some 87) _ = _
               simp only [Act.put, List.setIfInBounds_toArray, List.set_cons_zero, List.set_cons_succ, i64_w]
               rfl
              exact norm_ (by first | (simp only [putAll, Act.put, List.setIfInBounds_toArray, List.set_cons_zero, List.set_cons_succ]; done) | (simp only [putAll, Act.put, List.setIfInBounds_toArray, List.set_cons_zero, List.set_cons_succ]; rfl)) (hJ11_13_15 () _ ⟨hHeld, (by (with_reducible repeat (first | apply Kd.R_alloc | apply Kd.R_drewN | apply Kd.R_drew)); exact ae.out), (by (with_reducible repeat (first | refine blk_drewN ?_ _ | refine blk_drew ?_ | refine blk_alloc ?_ _)); exact aa.out), (by (with_reducible repeat (first | refine blk_drewN ?_ _ | refine blk_drew ?_ | refine blk_alloc ?_ _)); exact ac.out), (by (with_reducible repeat (first | refine blk_drewN ?_ _ | refine blk_drew ?_ | refine blk_alloc ?_ _)); exact ad.out), (by (with_reducible repeat (first | refine blk_drewN ?_ _ | refine blk_drew ?_ | refine blk_alloc ?_ _)); exact af.out), (by repeat (first | (with_reducible first | exact HB.out | apply below_alloc | apply pw_below_drewN | apply below_drew1 | refine below_set ?_ ah.out | refine below_set ?_ ai.out | refine below_set ?_ aj.out | refine below_set ?_ ao.out) | exact HB.out))⟩)
            ·skip
             rintro _ w63 ⟨hS_, h0_, h1_, h2_, h3_, h4_, h5_⟩
             have n0_ : Aside0 (Kd.R (Kd.int .u8) 5 w63 w.heap.size (fun _ => True) (.slice a6 t166.length a7) t166) := ⟨h0_⟩
             have n1_ : Aside0 (w63.heap[ag]? = some (.cells #[.int .u32 ak, .int .i64 al] 25 (0, 0))) := ⟨h1_⟩
             have n2_ : Aside0 (w63.heap[am]? = some (.cells #[.int .u32 t156, .int .i64 t157] 25 (0, 0))) := ⟨h2_⟩
             have n3_ : Aside0 (w63.heap[an]? = some (.cells #[.int .u32 t161, .int .i64 t162] 25 (0, 0))) := ⟨h3_⟩
             have n4_ : Aside0 (w63.heap[ab]? = some (.cells #[.int .u32 t169, .int .i64 t170] 25 (0, 0))) := ⟨h4_⟩
             have n5_ : Aside0 (Below w.heap.size w w63) := ⟨h5_⟩
             clear ae
             clear aa
             clear ac
             clear ad
             clear af
             clear HB
             clear h0_ h1_ h2_ h3_ h4_ h5_
             have ae := n0_
             have aa := n1_
             have ac := n2_
             have ad := n3_
             have af := n4_
             have HB := n5_
             clear n0_ n1_ n2_ n3_ n4_ n5_
             have hHeld : w63.cell? ⟨ab, 0, none⟩ = some (.int .u32 t169) ∧ w63.cell? ⟨ab, 1, none⟩ = some (.int .i64 t170) ∧ w63.cell? ⟨ag, 0, none⟩ = some (.int .u32 ak) ∧ w63.cell? ⟨ag, 1, none⟩ = some (.int .i64 al) := hS_
             refine norm_ (a' := ?_) ?_ ?_
             rotate_left
             ·simp only [putAll, Act.put, List.setIfInBounds_toArray, List.set_cons_zero, List.set_cons_succ]
              rfl
             refine one_ (i := 13) (N := some 89) #[true, true, true, true, true, true, true, true, true, true, true, true, true, true, true, true, false, false, false, false, false, false, false] rfl rfl (one_of HT_.out (by kernel_rfl)) (by decide) (fun K hK => ?_)
             have hcv64 := Kd.C_string (P := Try.prog) (A := A0) (c := c0) Try.underlying22 Try.underlying5 Try.underlying9 (Kd.C_below ba.out HB.out)
             refine value_ (w1 := ?_) (v := ?_) (by rfl) rfl ?_ ?_
             rotate_left 2
             ·go_simp
              constructor
              ·rfl
              ·rfl
             clear hcv64
             refine hK.out _ _ (k763a.b2 af.out (k763a.b2e aa.out)) (fun hHeld => ?_)
             clear hK K
             refine norm_ (a' := ?_) ?_ ?_
             rotate_left
             ·show Act.put _ (some 89) _ = _
              simp only [Act.put, List.setIfInBounds_toArray, List.set_cons_zero, List.set_cons_succ, i64_w]
              rfl
             refine pure_ (i := 16) (N := some 92) (v := ?_) (a' := ?_) #[true, true, true, true, true, true, true, true, true, true, true, true, true, true, true, true, true, false, false, false, false, false, false] rfl rfl (any_of HT_.out (by kernel_rfl)) (fun _ _ _ h => h) (Or.inl ⟨by rfl, ?_⟩) ?_ ?_
             rotate_left
             ·intro w'
              go_simp
              with_reducible rfl
             rotate_left
             ·simp only [Act.put, List.setIfInBounds_toArray, List.set_cons_zero, List.set_cons_succ, i64_w]
              rfl
             exact norm_ (by first | (simp only [putAll, Act.put, List.setIfInBounds_toArray, List.set_cons_zero, List.set_cons_succ]; done) | (simp only [putAll, Act.put, List.setIfInBounds_toArray, List.set_cons_zero, List.set_cons_succ]; rfl)) (hJ11_13_15 () _ ⟨hHeld, (by (with_reducible repeat (first | apply Kd.R_alloc | apply Kd.R_drewN | apply Kd.R_drew)); exact ae.out), (by (with_reducible repeat (first | refine blk_drewN ?_ _ | refine blk_drew ?_ | refine blk_alloc ?_ _)); exact aa.out), (by (with_reducible repeat (first | refine blk_drewN ?_ _ | refine blk_drew ?_ | refine blk_alloc ?_ _)); exact ac.out), (by (with_reducible repeat (first | refine blk_drewN ?_ _ | refine blk_drew ?_ | refine blk_alloc ?_ _)); exact ad.out), (by (with_reducible repeat (first | refine blk_drewN ?_ _ | refine blk_drew ?_ | refine blk_alloc ?_ _)); exact af.out), (by repeat (first | (with_reducible first | exact HB.out | apply below_alloc | apply pw_below_drewN | apply below_drew1 | refine below_set ?_ ah.out | refine below_set ?_ ai.out | refine below_set ?_ aj.out | refine below_set ?_ ao.out) | exact HB.out))⟩)
           ·skip
            rintro _ w63 ⟨hS_, h0_, h1_, h2_, h3_, h4_, h5_⟩
            have n0_ : Aside0 (Kd.R (Kd.int .u8) 5 w63 w.heap.size (fun _ => True) (.slice a6 t166.length a7) t166) := ⟨h0_⟩
            have n1_ : Aside0 (w63.heap[ag]? = some (.cells #[.int .u32 ak, .int .i64 al] 25 (0, 0))) := ⟨h1_⟩
            have n2_ : Aside0 (w63.heap[am]? = some (.cells #[.int .u32 t156, .int .i64 t157] 25 (0, 0))) := ⟨h2_⟩
            have n3_ : Aside0 (w63.heap[an]? = some (.cells #[.int .u32 t161, .int .i64 t162] 25 (0, 0))) := ⟨h3_⟩
            have n4_ : Aside0 (w63.heap[ab]? = some (.cells #[.int .u32 t169, .int .i64 t170] 25 (0, 0))) := ⟨h4_⟩
            have n5_ : Aside0 (Below w.heap.size w w63) := ⟨h5_⟩
            clear ae
            clear aa
            clear ac
            clear ad
            clear af
            clear HB
            clear h0_ h1_ h2_ h3_ h4_ h5_
            have ae := n0_
            have aa := n1_
            have ac := n2_
            have ad := n3_
            have af := n4_
            have HB := n5_
            clear n0_ n1_ n2_ n3_ n4_ n5_
            have hHeld : w63.cell? ⟨ab, 0, none⟩ = some (.int .u32 t169) ∧ w63.cell? ⟨ab, 1, none⟩ = some (.int .i64 t170) ∧ w63.cell? ⟨ag, 0, none⟩ = some (.int .u32 ak) ∧ w63.cell? ⟨ag, 1, none⟩ = some (.int .i64 al) := hS_
            refine norm_ (a' := ?_) ?_ ?_
            rotate_left
            ·simp only [putAll, Act.put, List.setIfInBounds_toArray, List.set_cons_zero, List.set_cons_succ]
             rfl
            refine one_ (i := 15) (N := some 91) #[true, true, true, true, true, true, true, true, true, true, true, true, true, true, true, true, false, false, false, false, false, false, false] rfl rfl (one_of HT_.out (by kernel_rfl)) (by decide) (fun K hK => ?_)
            refine goes_ Try.func13 (by kernel_rfl) rfl #[.agg #[.int .u32 ak, .int .i64 al]] (by rfl) rfl rfl (by (try simp only [List.map_toArray, List.map_cons, List.map_nil]); first | done | rfl) ?_
            with_reducible refine (whirligigref10_Prefix.calls bc ak al t174 _ bh.out).mono ?_
            rintro e w64 ⟨rfl, hb⟩
            refine ⟨_, rfl, ?_⟩
            replace ae := Aside0.mk (Kd.R_below (by (with_reducible repeat (first | apply Kd.R_alloc | apply Kd.R_drewN | apply Kd.R_drew)); exact ae.out) hb)
            replace aa := Aside0.mk (k763a.q aa.out hb rfl)
            replace ac := Aside0.mk (k763a.q ac.out hb rfl)
            replace ad := Aside0.mk (k763a.q ad.out hb rfl)
            replace af := Aside0.mk (k763a.q af.out hb rfl)
            replace HB := Aside0.mk (below_step (by repeat (first | (with_reducible first | exact HB.out | apply below_alloc | apply pw_below_drewN | apply below_drew1 | refine below_set ?_ ah.out | refine below_set ?_ ai.out | refine below_set ?_ aj.out | refine below_set ?_ ao.out) | exact HB.out)) hb)
            (try clear hb)
            (try clear bb)
            (try clear hk)
            (try clear hi)
            refine hK.out _ _ (k763a.b2 af.out (k763a.b2e aa.out)) (fun hHeld => ?_)
            clear hK K
            refine norm_ (a' := ?_) ?_ ?_
            rotate_left
            ·show Act.put _ (some 91) _ = _
             simp only [Act.put, List.setIfInBounds_toArray, List.set_cons_zero, List.set_cons_succ, i64_w]
             rfl
            refine pure_ (i := 16) (N := some 92) (v := ?_) (a' := ?_) #[true, true, true, true, true, true, true, true, true, true, true, true, true, true, true, true, true, false, false, false, false, false, false] rfl rfl (any_of HT_.out (by kernel_rfl)) (fun _ _ _ h => h) (Or.inl ⟨by rfl, ?_⟩) ?_ ?_
            rotate_left
            ·intro w'
             go_simp
             with_reducible rfl
            rotate_left
            ·simp only [Act.put, List.setIfInBounds_toArray, List.set_cons_zero, List.set_cons_succ, i64_w]
             rfl
            exact norm_ (by first | (simp only [putAll, Act.put, List.setIfInBounds_toArray, List.set_cons_zero, List.set_cons_succ]; done) | (simp only [putAll, Act.put, List.setIfInBounds_toArray, List.set_cons_zero, List.set_cons_succ]; rfl)) (hJ11_13_15 () _ ⟨hHeld, (by (with_reducible repeat (first | apply Kd.R_alloc | apply Kd.R_drewN | apply Kd.R_drew)); exact ae.out), (by (with_reducible repeat (first | refine blk_drewN ?_ _ | refine blk_drew ?_ | refine blk_alloc ?_ _)); exact aa.out), (by (with_reducible repeat (first | refine blk_drewN ?_ _ | refine blk_drew ?_ | refine blk_alloc ?_ _)); exact ac.out), (by (with_reducible repeat (first | refine blk_drewN ?_ _ | refine blk_drew ?_ | refine blk_alloc ?_ _)); exact ad.out), (by (with_reducible repeat (first | refine blk_drewN ?_ _ | refine blk_drew ?_ | refine blk_alloc ?_ _)); exact af.out), (by repeat (first | (with_reducible first | exact HB.out | apply below_alloc | apply pw_below_drewN | apply below_drew1 | refine below_set ?_ ah.out | refine below_set ?_ ai.out | refine below_set ?_ aj.out | refine below_set ?_ ao.out) | exact HB.out))⟩)
          rintro _ w64 ⟨hS_, h0_, h1_, h2_, h3_, h4_, h5_⟩
          have n0_ : Aside0 (Kd.R (Kd.int .u8) 5 w64 w.heap.size (fun _ => True) (.slice a6 t166.length a7) t166) := ⟨h0_⟩
          have n1_ : Aside0 (w64.heap[ag]? = some (.cells #[.int .u32 ak, .int .i64 al] 25 (0, 0))) := ⟨h1_⟩
          have n2_ : Aside0 (w64.heap[am]? = some (.cells #[.int .u32 t156, .int .i64 t157] 25 (0, 0))) := ⟨h2_⟩
          have n3_ : Aside0 (w64.heap[an]? = some (.cells #[.int .u32 t161, .int .i64 t162] 25 (0, 0))) := ⟨h3_⟩
          have n4_ : Aside0 (w64.heap[ab]? = some (.cells #[.int .u32 t169, .int .i64 t170] 25 (0, 0))) := ⟨h4_⟩
          have n5_ : Aside0 (Below w.heap.size w w64) := ⟨h5_⟩
          clear ae
          clear aa
          clear ac
          clear ad
          clear af
          clear HB
          clear h0_ h1_ h2_ h3_ h4_ h5_
          have ae := n0_
          have aa := n1_
          have ac := n2_
          have ad := n3_
          have af := n4_
          have HB := n5_
          clear n0_ n1_ n2_ n3_ n4_ n5_
          have hHeld : w64.cell? ⟨ab, 0, none⟩ = some (.int .u32 t169) ∧ w64.cell? ⟨ab, 1, none⟩ = some (.int .i64 t170) ∧ w64.cell? ⟨ag, 0, none⟩ = some (.int .u32 ak) ∧ w64.cell? ⟨ag, 1, none⟩ = some (.int .i64 al) := hS_
          refine norm_ (a' := ?_) ?_ ?_
          rotate_left
          ·simp only [putAll, Act.put, List.setIfInBounds_toArray, List.set_cons_zero, List.set_cons_succ]
           rfl
          refine pure_ (i := 17) (N := some 93) (v := ?_) (a' := ?_) #[true, true, true, true, true, true, true, true, true, true, true, true, true, true, true, true, true, true, false, false, false, false, false] rfl rfl (any_of HT_.out (by kernel_rfl)) (fun _ _ _ h => h) (Or.inl ⟨by rfl, ?_⟩) ?_ ?_
          rotate_left
          ·intro w'
           go_simp
           with_reducible rfl
          rotate_left
          ·simp only [Act.put, List.setIfInBounds_toArray, List.set_cons_zero, List.set_cons_succ, i64_w]
           rfl
          refine pure_ (i := 18) (N := some 94) (v := ?_) (a' := ?_) #[true, true, true, true, true, true, true, true, true, true, true, true, true, true, true, true, true, true, true, false, false, false, false] rfl rfl (any_of HT_.out (by kernel_rfl)) (fun _ _ _ h => h) (Or.inl ⟨by rfl, ?_⟩) ?_ ?_
          rotate_left
          ·intro w'
           go_simp
           with_reducible rfl
          rotate_left
          ·simp only [Act.put, List.setIfInBounds_toArray, List.set_cons_zero, List.set_cons_succ, i64_w]
           rfl
          refine pure_ (i := 19) (N := some 95) (v := ?_) (a' := ?_) #[true, true, true, true, true, true, true, true, true, true, true, true, true, true, true, true, true, true, true, true, false, false, false] rfl rfl (any_of HT_.out (by kernel_rfl)) (fun _ _ _ h => h) (Or.inl ⟨by rfl, ?_⟩) ?_ ?_
          rotate_left
          ·intro w'
           go_simp
           with_reducible rfl
          rotate_left
          ·simp only [Act.put, List.setIfInBounds_toArray, List.set_cons_zero, List.set_cons_succ, i64_w]
           rfl
          refine one_ (i := 20) (N := some 96) #[true, true, true, true, true, true, true, true, true, true, true, true, true, true, true, true, true, true, true, true, true, false, false] rfl rfl (one_of HT_.out (by kernel_rfl)) (by decide) (fun K hK => ?_)
          refine goes_ Try.func9 (by kernel_rfl) rfl #[] (by rfl) rfl rfl (by (try simp only [List.map_toArray, List.map_cons, List.map_nil]); first | done | rfl) ?_
          with_reducible refine (whirligiglaw10_lives.calls bc  t175 _ A47.out).mono ?_
          rintro e w65 ⟨rfl, hb⟩
          refine ⟨_, rfl, ?_⟩
          replace ae := Aside0.mk (Kd.R_below (by (with_reducible repeat (first | apply Kd.R_alloc | apply Kd.R_drewN | apply Kd.R_drew)); exact ae.out) hb)
          replace aa := Aside0.mk (k763a.q aa.out hb rfl)
          replace ac := Aside0.mk (k763a.q ac.out hb rfl)
          replace ad := Aside0.mk (k763a.q ad.out hb rfl)
          replace af := Aside0.mk (k763a.q af.out hb rfl)
          replace HB := Aside0.mk (below_step (by repeat (first | (with_reducible first | exact HB.out | apply below_alloc | apply pw_below_drewN | apply below_drew1 | refine below_set ?_ ah.out | refine below_set ?_ ai.out | refine below_set ?_ aj.out | refine below_set ?_ ao.out) | exact HB.out)) hb)
          (try clear hb)
          (try clear bb)
          (try clear hk)
          (try clear hi)
          refine hK.out _ _ (k763a.b2 af.out (k763a.b2e aa.out)) (fun hHeld => ?_)
          clear hK K
          refine norm_ (a' := ?_) ?_ ?_
          rotate_left
          ·show Act.put _ (some 96) _ = _
           simp only [Act.put, List.setIfInBounds_toArray, List.set_cons_zero, List.set_cons_succ, i64_w]
           rfl
          refine pure_ (i := 21) (N := some 97) (v := ?_) (a' := ?_) #[true, true, true, true, true, true, true, true, true, true, true, true, true, true, true, true, true, true, true, true, true, true, false] rfl rfl (any_of HT_.out (by kernel_rfl)) (fun _ _ _ h => h) (Or.inl ⟨by rfl, ?_⟩) ?_ ?_
          rotate_left
          ·intro w'
           go_simp
           with_reducible rfl
          rotate_left
          ·simp only [Act.put, List.setIfInBounds_toArray, List.set_cons_zero, List.set_cons_succ, i64_w]
           rfl
          refine pure_ (i := 22) (N := some 6) (v := ?_) (a' := ?_) #[true, true, true, true, true, true, true, true, true, true, true, true, true, true, true, true, true, true, true, true, true, true, true] rfl rfl (any_of HT_.out (by kernel_rfl)) (fun _ _ _ h => h) (Or.inl ⟨by rfl, ?_⟩) ?_ ?_
          rotate_left
          ·intro w'
           go_simp
           with_reducible rfl
          rotate_left
          ·simp only [Act.put, List.setIfInBounds_toArray, List.set_cons_zero, List.set_cons_succ, i64_w]
           rfl
          refine done_ (done_of HT_.out (by kernel_rfl)) ?_
          try go_wp2
          go_ret
          exact ⟨by first | rfl | (simp [errW_none, errW_some] <;> rfl) | (simp [*, errW_none, errW_some] <;> rfl), by repeat (first | (with_reducible first | exact HB.out | apply below_alloc | apply pw_below_drewN | apply below_drew1 | refine below_set ?_ ah.out | refine below_set ?_ ai.out | refine below_set ?_ aj.out | refine below_set ?_ ao.out) | exact HB.out)⟩
         ·rw [if_neg c46] at H
          have c46b0 : ((strOfNums t166).toList == ((strOfNums l0) ++ t174).toList) = false := beq_eq_false_iff_ne.mpr c46
          have c46b1 : ((strOfNums t166).toList != ((strOfNums l0) ++ t174).toList) = true := bne_iff_ne.mpr c46
          obtain rfl := Option.some.inj H
          have hnb66 := av.out
          have hnc66 := az.out
          have hnb67 := au.out
          have hnc67 := a4.out
          have hcz68_0 : wc.cell? ⟨ag, 0, none⟩ = some (.int .u32 ak) := (blk_cell aa.out 0).trans rfl
          have hcz68_1 : wc.cell? ⟨ag, 1, none⟩ = some (.int .i64 al) := (blk_cell aa.out 1).trans rfl
          have hfz68_0 := blk_frozen aa.out 0
          have hfz68_1 := blk_frozen aa.out 1
          try go_wp2_with (first | ((with_reducible refine gate_callee (f := 12) rfl ?_); refine goesL_ (some 50) rfl rfl Try.func12 (by kernel_rfl) rfl #[.slice A0 l0.length c0, .agg #[.int .u32 ak, .int .i64 al]] rfl (by (try simp only [List.map_toArray, List.map_cons, List.map_nil]); first | done | rfl) ?_; (with_reducible refine (wire_Prefix.calls bc _ _ l0 ak al t166 _ ?side1 ?side2 A39.out).mono ?_); (case side1 => repeat (first | exact (Kd.C_below ba.out HB.out) | (with_reducible refine Kd.C_alloc ?_ _) | (with_reducible refine Kd.C_drewN ?_ _) | (with_reducible refine Kd.C_drew ?_))); (case side2 => exact bf.out); rintro e w69 ⟨v167, rfl, ho0, hb⟩; refine ⟨_, rfl, ?_⟩; have ae := Aside0.mk (Kd.R_lower ho0 (below_size (by repeat (first | (with_reducible first | exact HB.out | apply below_alloc | apply pw_below_drewN | apply below_drew1 | refine below_set ?_ ah.out | refine below_set ?_ ai.out | refine below_set ?_ aj.out) | exact HB.out)))); replace aa := Aside0.mk (k763a.q aa.out hb rfl); replace ac := Aside0.mk (k763a.q ac.out hb rfl); replace ad := Aside0.mk (k763a.q ad.out hb rfl); replace HB := Aside0.mk (below_step (by repeat (first | (with_reducible first | exact HB.out | apply below_alloc | apply pw_below_drewN | apply below_drew1 | refine below_set ?_ ah.out | refine below_set ?_ ai.out | refine below_set ?_ aj.out) | exact HB.out)) hb); (try clear hb); (try clear bb); (try clear hk); (try clear hi); (try clear ho0); obtain ⟨a8, a9, eo70⟩ := Kd.R_slice ae.out; subst eo70) | ((with_reducible refine gate_callee (f := 10) rfl ?_); refine goesL_ (some 55) rfl rfl Try.func10 (by kernel_rfl) rfl #[.slice a8 t166.length a9, .int .i64 (l0.length : Int)] rfl (by (try simp only [List.map_toArray, List.map_cons, List.map_nil]); first | done | rfl) ?_; (with_reducible refine (wire_Take.calls bc _ _ t166 (l0.length : Int) t169 t170 t171 t172 _ ?side1 ?side2 A40.out).mono ?_); (case side1 => repeat (first | exact (Kd.R_reads' ae.out).2.2 | (with_reducible refine Kd.C_alloc ?_ _) | (with_reducible refine Kd.C_drewN ?_ _) | (with_reducible refine Kd.C_drew ?_))); (case side2 => exact (Kd.R_reads' ae.out).2.1); rintro e w71 ⟨rfl, hb⟩; refine ⟨_, rfl, ?_⟩; replace ae := Aside0.mk (Kd.R_below (by (with_reducible repeat (first | apply Kd.R_alloc | apply Kd.R_drewN | apply Kd.R_drew)); exact ae.out) hb); replace aa := Aside0.mk (k763a.q aa.out hb rfl); replace ac := Aside0.mk (k763a.q ac.out hb rfl); replace ad := Aside0.mk (k763a.q ad.out hb rfl); replace HB := Aside0.mk (below_step (by repeat (first | (with_reducible first | exact HB.out | apply below_alloc | apply pw_below_drewN | apply below_drew1 | refine below_set ?_ ah.out | refine below_set ?_ ai.out | refine below_set ?_ aj.out) | exact HB.out)) hb); (try clear hb); (try clear bb); (try clear hk); (try clear hi)) | ((with_reducible refine gate_dst (N := 14) rfl ?_); (try (refine gate_guard (by rfl) ?_; dsimp only)); refine box_event ?hg (N := 14) ?hd (cs := #[.int .u32 0, .int .i64 0]) (t := 25) ?hr ?_; (case hd => rfl); (case hg => rfl); (case hr => first | (go_simp; done) | (go_simp; rfl)); intro ab hg w72 hbox hb; have n0_ := Aside0.mk (Kd.R_below (by (with_reducible repeat (first | apply Kd.R_alloc | apply Kd.R_drewN | apply Kd.R_drew)); exact ae.out) hb); have n1_ := Aside0.mk (k763a.q aa.out hb rfl); have n2_ := Aside0.mk (k763a.q ac.out hb rfl); have n3_ := Aside0.mk (k763a.q ad.out hb rfl); have n4_ := Aside0.mk (below_step (by repeat (first | (with_reducible first | exact HB.out | apply below_alloc | apply pw_below_drewN | apply below_drew1 | refine below_set ?_ ah.out | refine below_set ?_ ai.out | refine below_set ?_ aj.out) | exact HB.out)) hb); have n5_ := Aside0.mk (hbox); have n6_ := Aside0.mk ((by rw [hg]; exact (below_size (by repeat (first | (with_reducible first | exact HB.out | apply below_alloc | apply pw_below_drewN | apply below_drew1 | refine below_set ?_ ah.out | refine below_set ?_ ai.out | refine below_set ?_ aj.out) | exact HB.out))) : w.heap.size ≤ ab)); have n7_ := Aside0.mk ((by rw [hg]; exact (below_size (by repeat (first | (with_reducible first | exact HB.out | apply below_alloc | apply pw_below_drewN | apply below_drew1 | refine below_set ?_ ah.out | refine below_set ?_ ai.out | refine below_set ?_ aj.out) | exact HB.out))) : w.heap.size ≤ ab)); have n8_ := Aside0.mk ((by rw [hg]; exact Nat.ne_of_lt (blk_lt (g := ag) (o := .cells #[.int .u32 ak, .int .i64 al] 25 (0, 0)) (by (with_reducible repeat (first | refine blk_drewN ?_ _ | refine blk_drew ?_ | refine blk_alloc ?_ _)); exact aa.out)) : ag ≠ ab)); have n9_ := Aside0.mk ((by rw [hg]; exact Nat.ne_of_gt (blk_lt (g := ag) (o := .cells #[.int .u32 ak, .int .i64 al] 25 (0, 0)) (by (with_reducible repeat (first | refine blk_drewN ?_ _ | refine blk_drew ?_ | refine blk_alloc ?_ _)); exact aa.out)) : ab ≠ ag)); have n10_ := Aside0.mk ((by rw [hg]; exact Nat.ne_of_lt (blk_lt (g := am) (o := .cells #[.int .u32 t156, .int .i64 t157] 25 (0, 0)) (by (with_reducible repeat (first | refine blk_drewN ?_ _ | refine blk_drew ?_ | refine blk_alloc ?_ _)); exact ac.out)) : am ≠ ab)); have n11_ := Aside0.mk ((by rw [hg]; exact Nat.ne_of_gt (blk_lt (g := am) (o := .cells #[.int .u32 t156, .int .i64 t157] 25 (0, 0)) (by (with_reducible repeat (first | refine blk_drewN ?_ _ | refine blk_drew ?_ | refine blk_alloc ?_ _)); exact ac.out)) : ab ≠ am)); have n12_ := Aside0.mk ((by rw [hg]; exact Nat.ne_of_lt (blk_lt (g := an) (o := .cells #[.int .u32 t161, .int .i64 t162] 25 (0, 0)) (by (with_reducible repeat (first | refine blk_drewN ?_ _ | refine blk_drew ?_ | refine blk_alloc ?_ _)); exact ad.out)) : an ≠ ab)); have n13_ := Aside0.mk ((by rw [hg]; exact Nat.ne_of_gt (blk_lt (g := an) (o := .cells #[.int .u32 t161, .int .i64 t162] 25 (0, 0)) (by (with_reducible repeat (first | refine blk_drewN ?_ _ | refine blk_drew ?_ | refine blk_alloc ?_ _)); exact ad.out)) : ab ≠ an)); clear ae; clear aa; clear ac; clear ad; clear HB; have ae := n0_; have aa := n1_; have ac := n2_; have ad := n3_; have HB := n4_; have af := n5_; have GW173 := n6_; have ao := n7_; have ap := n8_; have aw := n9_; have aq := n10_; have ax := n11_; have ar := n12_; have ay := n13_; clear n0_ n1_ n2_ n3_ n4_ n5_ n6_ n7_ n8_ n9_ n10_ n11_ n12_ n13_; clear hb hbox hg; have hnb73 := aw.out; have hnc73 := ap.out; have hnb74 := ax.out; have hnc74 := aq.out; have hnb75 := ay.out; have hnc75 := ar.out; have hcz76_0 : w72.cell? ⟨ab, 0, none⟩ = some (.int .u32 0) := (blk_cell af.out 0).trans rfl; have hcz76_1 : w72.cell? ⟨ab, 1, none⟩ = some (.int .i64 0) := (blk_cell af.out 1).trans rfl; have hfz76_0 := blk_frozen af.out 0; have hfz76_1 := blk_frozen af.out 1))
          have n0_ : Aside0 (Kd.R (Kd.int .u8) 5 ((w72.setCell ⟨ab, 0, none⟩ (.int .u32 t169)).setCell ⟨ab, 1, none⟩ (.int .i64 t170)) w.heap.size (fun _ => True) (.slice a8 t166.length a9) t166) := ⟨by (with_reducible repeat (first | apply Kd.R_alloc | apply Kd.R_drewN | apply Kd.R_drew)); exact Kd.R_mono (Kd.R_far (p := ⟨ab, 1, none⟩) (Kd.R_far (p := ⟨ab, 0, none⟩) (Kd.R_types ae.out af.out (by decide)) (fun _ hk => hk.2) (.int .u32 t169)) (fun _ hk => hk.2) (.int .i64 t170)) (fun _ hk => trivial)⟩
          have n1_ : Aside0 (((w72.setCell ⟨ab, 0, none⟩ (.int .u32 t169)).setCell ⟨ab, 1, none⟩ (.int .i64 t170)).heap[ag]? = some (.cells #[.int .u32 ak, .int .i64 al] 25 (0, 0))) := ⟨by (with_reducible repeat (first | refine blk_drewN ?_ _ | refine blk_drew ?_ | refine blk_alloc ?_ _)); refine blk_far ?_ ap.out _; (with_reducible repeat (first | refine blk_drewN ?_ _ | refine blk_drew ?_ | refine blk_alloc ?_ _)); refine blk_far ?_ ap.out _; (with_reducible repeat (first | refine blk_drewN ?_ _ | refine blk_drew ?_ | refine blk_alloc ?_ _)); exact aa.out⟩
          have n2_ : Aside0 (((w72.setCell ⟨ab, 0, none⟩ (.int .u32 t169)).setCell ⟨ab, 1, none⟩ (.int .i64 t170)).heap[am]? = some (.cells #[.int .u32 t156, .int .i64 t157] 25 (0, 0))) := ⟨by (with_reducible repeat (first | refine blk_drewN ?_ _ | refine blk_drew ?_ | refine blk_alloc ?_ _)); refine blk_far ?_ aq.out _; (with_reducible repeat (first | refine blk_drewN ?_ _ | refine blk_drew ?_ | refine blk_alloc ?_ _)); refine blk_far ?_ aq.out _; (with_reducible repeat (first | refine blk_drewN ?_ _ | refine blk_drew ?_ | refine blk_alloc ?_ _)); exact ac.out⟩
          have n3_ : Aside0 (((w72.setCell ⟨ab, 0, none⟩ (.int .u32 t169)).setCell ⟨ab, 1, none⟩ (.int .i64 t170)).heap[an]? = some (.cells #[.int .u32 t161, .int .i64 t162] 25 (0, 0))) := ⟨by (with_reducible repeat (first | refine blk_drewN ?_ _ | refine blk_drew ?_ | refine blk_alloc ?_ _)); refine blk_far ?_ ar.out _; (with_reducible repeat (first | refine blk_drewN ?_ _ | refine blk_drew ?_ | refine blk_alloc ?_ _)); refine blk_far ?_ ar.out _; (with_reducible repeat (first | refine blk_drewN ?_ _ | refine blk_drew ?_ | refine blk_alloc ?_ _)); exact ad.out⟩
          have n4_ : Aside0 (((w72.setCell ⟨ab, 0, none⟩ (.int .u32 t169)).setCell ⟨ab, 1, none⟩ (.int .i64 t170)).heap[ab]? = some (.cells #[.int .u32 t169, .int .i64 t170] 25 (0, 0))) := ⟨by (with_reducible repeat (first | refine blk_drewN ?_ _ | refine blk_drew ?_ | refine blk_alloc ?_ _)); refine blk_put (cs := #[.int .u32 t169, .int .i64 0]) ?_ 1 _ (by first | rfl | (simp; done) | (simp; omega)); (with_reducible repeat (first | refine blk_drewN ?_ _ | refine blk_drew ?_ | refine blk_alloc ?_ _)); refine blk_put (cs := #[.int .u32 0, .int .i64 0]) ?_ 0 _ (by first | rfl | (simp; done) | (simp; omega)); (with_reducible repeat (first | refine blk_drewN ?_ _ | refine blk_drew ?_ | refine blk_alloc ?_ _)); exact af.out⟩
          have n5_ : Aside0 (Below w.heap.size w ((w72.setCell ⟨ab, 0, none⟩ (.int .u32 t169)).setCell ⟨ab, 1, none⟩ (.int .i64 t170))) := ⟨by repeat (first | (with_reducible first | exact HB.out | apply below_alloc | apply pw_below_drewN | apply below_drew1 | refine below_set ?_ ah.out | refine below_set ?_ ai.out | refine below_set ?_ aj.out | refine below_set ?_ ao.out) | exact HB.out)⟩
          (try clear ae)
          (try clear aa)
          (try clear ac)
          (try clear ad)
          (try clear af)
          (try clear HB)
          generalize ((w72.setCell ⟨ab, 0, none⟩ (.int .u32 t169)).setCell ⟨ab, 1, none⟩ (.int .i64 t170)) = w77 at n0_ n1_ n2_ n3_ n4_ n5_ ⊢
          have ae := n0_
          have aa := n1_
          have ac := n2_
          have ad := n3_
          have af := n4_
          have HB := n5_
          clear n0_ n1_ n2_ n3_ n4_ n5_
          replace ae := Aside0.mk (Kd.R_drew ae.out)
          replace aa := Aside0.mk (blk_drew aa.out)
          replace ac := Aside0.mk (blk_drew ac.out)
          replace ad := Aside0.mk (blk_drew ad.out)
          replace af := Aside0.mk (blk_drew af.out)
          replace HB := Aside0.mk (below_drew1 HB.out)
          refine start_ (n := 23) (S := k763a.S0 ab ag (.int .u32 t169) (.int .i64 t170) (.int .u32 ak) (.int .i64 al)) (ds := []) #[false, false, false, false, false, false, false, false, false, false, false, false, false, false, false, false, false, false, false, false, false, false, false] (by kernel_rfl) rfl rfl (k763a.b2 af.out (k763a.b2e aa.out)) (fun hHeld => ?_); refine with_tabW whirligiglaw10_WirePrefixes.tab11 whirligiglaw10_WirePrefixes.bits11 (fun HT_ HW_ => ?_)
          generalize w77.drew = w78 at ae aa ac ad af HB hHeld ⊢
          refine take_ (i := 0) (N := some 76) (v := ?_) (a' := ?_) #[true, false, false, false, false, false, false, false, false, false, false, false, false, false, false, false, false, false, false, false, false, false, false] rfl rfl (take_ofW HT_.out HW_.out (by kernel_rfl)) (fun _ _ _ h => h) (Or.inl ⟨by rfl, ?_⟩) hHeld ?_ ?_
          rotate_left
          ·rintro w' ⟨s0, s1, s2, s3⟩
           go_simp
           with_reducible rfl
          rotate_left
          ·simp only [Act.put, List.setIfInBounds_toArray, List.set_cons_zero, List.set_cons_succ, i64_w]
           rfl
          refine take_ (i := 1) (N := some 77) (v := ?_) (a' := ?_) #[true, true, false, false, false, false, false, false, false, false, false, false, false, false, false, false, false, false, false, false, false, false, false] rfl rfl (take_ofW HT_.out HW_.out (by kernel_rfl)) (fun _ _ _ h => h) (Or.inl ⟨by rfl, ?_⟩) hHeld ?_ ?_
          rotate_left
          ·rintro w' ⟨s0, s1, s2, s3⟩
           go_simp
           with_reducible rfl
          rotate_left
          ·simp only [Act.put, List.setIfInBounds_toArray, List.set_cons_zero, List.set_cons_succ, i64_w]
           rfl
          refine pure_ (i := 2) (N := some 78) (v := ?_) (a' := ?_) #[true, true, true, false, false, false, false, false, false, false, false, false, false, false, false, false, false, false, false, false, false, false, false] rfl rfl (any_of HT_.out (by kernel_rfl)) (fun _ _ _ h => h) (Or.inl ⟨by rfl, ?_⟩) ?_ ?_
          rotate_left
          ·intro w'
           go_simp
           with_reducible rfl
          rotate_left
          ·simp only [Act.put, List.setIfInBounds_toArray, List.set_cons_zero, List.set_cons_succ, i64_w]
           rfl
          refine pure_ (i := 3) (N := some 79) (v := ?_) (a' := ?_) #[true, true, true, true, false, false, false, false, false, false, false, false, false, false, false, false, false, false, false, false, false, false, false] rfl rfl (any_of HT_.out (by kernel_rfl)) (fun _ _ _ h => h) (Or.inl ⟨by rfl, ?_⟩) ?_ ?_
          rotate_left
          ·intro w'
           go_simp
           with_reducible rfl
          rotate_left
          ·simp only [Act.put, List.setIfInBounds_toArray, List.set_cons_zero, List.set_cons_succ, i64_w]
           rfl
          refine pure_ (i := 4) (N := some 80) (v := ?_) (a' := ?_) #[true, true, true, true, true, false, false, false, false, false, false, false, false, false, false, false, false, false, false, false, false, false, false] rfl rfl (any_of HT_.out (by kernel_rfl)) (fun _ _ _ h => h) (Or.inl ⟨by rfl, ?_⟩) ?_ ?_
          rotate_left
          ·intro w'
           go_simp
           with_reducible rfl
          rotate_left
          ·simp only [Act.put, List.setIfInBounds_toArray, List.set_cons_zero, List.set_cons_succ, i64_w]
           rfl
          refine pure_ (i := 5) (N := some 81) (v := ?_) (a' := ?_) #[true, true, true, true, true, true, false, false, false, false, false, false, false, false, false, false, false, false, false, false, false, false, false] rfl rfl (any_of HT_.out (by kernel_rfl)) (fun _ _ _ h => h) (Or.inl ⟨by rfl, ?_⟩) ?_ ?_
          rotate_left
          ·intro w'
           go_simp
           with_reducible rfl
          rotate_left
          ·simp only [Act.put, List.setIfInBounds_toArray, List.set_cons_zero, List.set_cons_succ, i64_w]
           rfl
          refine pure_ (i := 6) (N := some 82) (v := ?_) (a' := ?_) #[true, true, true, true, true, true, true, false, false, false, false, false, false, false, false, false, false, false, false, false, false, false, false] rfl rfl (any_of HT_.out (by kernel_rfl)) (fun _ _ _ h => h) (Or.inl ⟨by rfl, ?_⟩) ?_ ?_
          rotate_left
          ·intro w'
           go_simp
           with_reducible rfl
          rotate_left
          ·simp only [Act.put, List.setIfInBounds_toArray, List.set_cons_zero, List.set_cons_succ, i64_w]
           rfl
          refine pure_ (i := 7) (N := some 83) (v := ?_) (a' := ?_) #[true, true, true, true, true, true, true, true, false, false, false, false, false, false, false, false, false, false, false, false, false, false, false] rfl rfl (any_of HT_.out (by kernel_rfl)) (fun _ _ _ h => h) (Or.inl ⟨by rfl, ?_⟩) ?_ ?_
          rotate_left
          ·intro w'
           go_simp
           with_reducible rfl
          rotate_left
          ·simp only [Act.put, List.setIfInBounds_toArray, List.set_cons_zero, List.set_cons_succ, i64_w]
           rfl
          refine pure_ (i := 8) (N := some 84) (v := ?_) (a' := ?_) #[true, true, true, true, true, true, true, true, true, false, false, false, false, false, false, false, false, false, false, false, false, false, false] rfl rfl (any_of HT_.out (by kernel_rfl)) (fun _ _ _ h => h) (Or.inl ⟨by rfl, ?_⟩) ?_ ?_
          rotate_left
          ·intro w'
           go_simp
           with_reducible rfl
          rotate_left
          ·simp only [Act.put, List.setIfInBounds_toArray, List.set_cons_zero, List.set_cons_succ, i64_w]
           rfl
          refine pure_ (i := 9) (N := some 85) (v := ?_) (a' := ?_) #[true, true, true, true, true, true, true, true, true, true, false, false, false, false, false, false, false, false, false, false, false, false, false] rfl rfl (any_of HT_.out (by kernel_rfl)) (fun _ _ _ h => h) (Or.inl ⟨by rfl, ?_⟩) ?_ ?_
          rotate_left
          ·intro w'
           go_simp
           with_reducible rfl
          rotate_left
          ·simp only [Act.put, List.setIfInBounds_toArray, List.set_cons_zero, List.set_cons_succ, i64_w]
           rfl
          refine pure_ (i := 10) (N := some 86) (v := ?_) (a' := ?_) #[true, true, true, true, true, true, true, true, true, true, true, false, false, false, false, false, false, false, false, false, false, false, false] rfl rfl (any_of HT_.out (by kernel_rfl)) (fun _ _ _ h => h) (Or.inl ⟨by rfl, ?_⟩) ?_ ?_
          rotate_left
          ·intro w'
           go_simp
           with_reducible rfl
          rotate_left
          ·simp only [Act.put, List.setIfInBounds_toArray, List.set_cons_zero, List.set_cons_succ, i64_w]
           rfl
          refine pure_ (i := 12) (N := some 88) (v := ?_) (a' := ?_) #[true, true, true, true, true, true, true, true, true, true, true, false, true, false, false, false, false, false, false, false, false, false, false] rfl rfl (any_of HT_.out (by kernel_rfl)) (fun _ _ _ h => h) (Or.inl ⟨by rfl, ?_⟩) ?_ ?_
          rotate_left
          ·intro w'
           go_simp
           with_reducible rfl
          rotate_left
          ·simp only [Act.put, List.setIfInBounds_toArray, List.set_cons_zero, List.set_cons_succ, i64_w]
           rfl
          refine take_ (i := 14) (N := some 90) (v := ?_) (a' := ?_) #[true, true, true, true, true, true, true, true, true, true, true, false, true, false, true, false, false, false, false, false, false, false, false] rfl rfl (take_ofW HT_.out HW_.out (by kernel_rfl)) (fun _ _ _ h => h) (Or.inl ⟨by rfl, ?_⟩) hHeld ?_ ?_
          rotate_left
          ·rintro w' ⟨s0, s1, s2, s3⟩
           go_simp
           with_reducible rfl
          rotate_left
          ·simp only [Act.put, List.setIfInBounds_toArray, List.set_cons_zero, List.set_cons_succ, i64_w]
           rfl
          refine join_ (σ := Unit) 6 #[true, true, true, true, true, true, true, true, true, true, true, true, true, true, true, true, true, false, false, false, false, false, false] (fun s_ => [(87, .string (strOfNums t166)), (89, .string (strOfNums l0)), (91, .string t174), (92, .string ((strOfNums l0) ++ t174))]) (fun s_ w' => (w'.cell? ⟨ab, 0, none⟩ = some (.int .u32 t169) ∧ w'.cell? ⟨ab, 1, none⟩ = some (.int .i64 t170) ∧ w'.cell? ⟨ag, 0, none⟩ = some (.int .u32 ak) ∧ w'.cell? ⟨ag, 1, none⟩ = some (.int .i64 al)) ∧ (Kd.R (Kd.int .u8) 5 w' w.heap.size (fun _ => True) (.slice a8 t166.length a9) t166) ∧ (w'.heap[ag]? = some (.cells #[.int .u32 ak, .int .i64 al] 25 (0, 0))) ∧ (w'.heap[am]? = some (.cells #[.int .u32 t156, .int .i64 t157] 25 (0, 0))) ∧ (w'.heap[an]? = some (.cells #[.int .u32 t161, .int .i64 t162] 25 (0, 0))) ∧ (w'.heap[ab]? = some (.cells #[.int .u32 t169, .int .i64 t170] 25 (0, 0))) ∧ (Below w.heap.size w w')) ?_ ?_
          rotate_left
          ·intro hJ11_13_15
           refine join_ (σ := Unit) 8 #[true, true, true, true, true, true, true, true, true, true, true, true, true, true, true, false, false, false, false, false, false, false, false] (fun s_ => [(87, .string (strOfNums t166)), (89, .string (strOfNums l0))]) (fun s_ w' => (w'.cell? ⟨ab, 0, none⟩ = some (.int .u32 t169) ∧ w'.cell? ⟨ab, 1, none⟩ = some (.int .i64 t170) ∧ w'.cell? ⟨ag, 0, none⟩ = some (.int .u32 ak) ∧ w'.cell? ⟨ag, 1, none⟩ = some (.int .i64 al)) ∧ (Kd.R (Kd.int .u8) 5 w' w.heap.size (fun _ => True) (.slice a8 t166.length a9) t166) ∧ (w'.heap[ag]? = some (.cells #[.int .u32 ak, .int .i64 al] 25 (0, 0))) ∧ (w'.heap[am]? = some (.cells #[.int .u32 t156, .int .i64 t157] 25 (0, 0))) ∧ (w'.heap[an]? = some (.cells #[.int .u32 t161, .int .i64 t162] 25 (0, 0))) ∧ (w'.heap[ab]? = some (.cells #[.int .u32 t169, .int .i64 t170] 25 (0, 0))) ∧ (Below w.heap.size w w')) ?_ ?_
           rotate_left
           ·intro hJ11_13
            refine join_ (σ := Unit) 8 #[true, true, true, true, true, true, true, true, true, true, true, true, true, false, true, true, false, false, false, false, false, false, false] (fun s_ => [(87, .string (strOfNums t166)), (91, .string t174)]) (fun s_ w' => (w'.cell? ⟨ab, 0, none⟩ = some (.int .u32 t169) ∧ w'.cell? ⟨ab, 1, none⟩ = some (.int .i64 t170) ∧ w'.cell? ⟨ag, 0, none⟩ = some (.int .u32 ak) ∧ w'.cell? ⟨ag, 1, none⟩ = some (.int .i64 al)) ∧ (Kd.R (Kd.int .u8) 5 w' w.heap.size (fun _ => True) (.slice a8 t166.length a9) t166) ∧ (w'.heap[ag]? = some (.cells #[.int .u32 ak, .int .i64 al] 25 (0, 0))) ∧ (w'.heap[am]? = some (.cells #[.int .u32 t156, .int .i64 t157] 25 (0, 0))) ∧ (w'.heap[an]? = some (.cells #[.int .u32 t161, .int .i64 t162] 25 (0, 0))) ∧ (w'.heap[ab]? = some (.cells #[.int .u32 t169, .int .i64 t170] 25 (0, 0))) ∧ (Below w.heap.size w w')) ?_ ?_
            rotate_left
            ·intro hJ11_15
             refine join_ (σ := Unit) 7 #[true, true, true, true, true, true, true, true, true, true, true, false, true, true, true, true, true, false, false, false, false, false, false] (fun s_ => [(89, .string (strOfNums l0)), (91, .string t174), (92, .string ((strOfNums l0) ++ t174))]) (fun s_ w' => (w'.cell? ⟨ab, 0, none⟩ = some (.int .u32 t169) ∧ w'.cell? ⟨ab, 1, none⟩ = some (.int .i64 t170) ∧ w'.cell? ⟨ag, 0, none⟩ = some (.int .u32 ak) ∧ w'.cell? ⟨ag, 1, none⟩ = some (.int .i64 al)) ∧ (Kd.R (Kd.int .u8) 5 w' w.heap.size (fun _ => True) (.slice a8 t166.length a9) t166) ∧ (w'.heap[ag]? = some (.cells #[.int .u32 ak, .int .i64 al] 25 (0, 0))) ∧ (w'.heap[am]? = some (.cells #[.int .u32 t156, .int .i64 t157] 25 (0, 0))) ∧ (w'.heap[an]? = some (.cells #[.int .u32 t161, .int .i64 t162] 25 (0, 0))) ∧ (w'.heap[ab]? = some (.cells #[.int .u32 t169, .int .i64 t170] 25 (0, 0))) ∧ (Below w.heap.size w w')) ?_ ?_
             rotate_left
             ·intro hJ13_15
              refine join_ (σ := Unit) 9 #[true, true, true, true, true, true, true, true, true, true, true, true, true, false, true, false, false, false, false, false, false, false, false] (fun s_ => [(87, .string (strOfNums t166))]) (fun s_ w' => (w'.cell? ⟨ab, 0, none⟩ = some (.int .u32 t169) ∧ w'.cell? ⟨ab, 1, none⟩ = some (.int .i64 t170) ∧ w'.cell? ⟨ag, 0, none⟩ = some (.int .u32 ak) ∧ w'.cell? ⟨ag, 1, none⟩ = some (.int .i64 al)) ∧ (Kd.R (Kd.int .u8) 5 w' w.heap.size (fun _ => True) (.slice a8 t166.length a9) t166) ∧ (w'.heap[ag]? = some (.cells #[.int .u32 ak, .int .i64 al] 25 (0, 0))) ∧ (w'.heap[am]? = some (.cells #[.int .u32 t156, .int .i64 t157] 25 (0, 0))) ∧ (w'.heap[an]? = some (.cells #[.int .u32 t161, .int .i64 t162] 25 (0, 0))) ∧ (w'.heap[ab]? = some (.cells #[.int .u32 t169, .int .i64 t170] 25 (0, 0))) ∧ (Below w.heap.size w w')) ?_ ?_
              rotate_left
              ·intro hJ11
               refine join_ (σ := Unit) 9 #[true, true, true, true, true, true, true, true, true, true, true, false, true, true, true, false, false, false, false, false, false, false, false] (fun s_ => [(89, .string (strOfNums l0))]) (fun s_ w' => (w'.cell? ⟨ab, 0, none⟩ = some (.int .u32 t169) ∧ w'.cell? ⟨ab, 1, none⟩ = some (.int .i64 t170) ∧ w'.cell? ⟨ag, 0, none⟩ = some (.int .u32 ak) ∧ w'.cell? ⟨ag, 1, none⟩ = some (.int .i64 al)) ∧ (Kd.R (Kd.int .u8) 5 w' w.heap.size (fun _ => True) (.slice a8 t166.length a9) t166) ∧ (w'.heap[ag]? = some (.cells #[.int .u32 ak, .int .i64 al] 25 (0, 0))) ∧ (w'.heap[am]? = some (.cells #[.int .u32 t156, .int .i64 t157] 25 (0, 0))) ∧ (w'.heap[an]? = some (.cells #[.int .u32 t161, .int .i64 t162] 25 (0, 0))) ∧ (w'.heap[ab]? = some (.cells #[.int .u32 t169, .int .i64 t170] 25 (0, 0))) ∧ (Below w.heap.size w w')) ?_ ?_
               rotate_left
               ·intro hJ13
                refine join_ (σ := Unit) 9 #[true, true, true, true, true, true, true, true, true, true, true, false, true, false, true, true, false, false, false, false, false, false, false] (fun s_ => [(91, .string t174)]) (fun s_ w' => (w'.cell? ⟨ab, 0, none⟩ = some (.int .u32 t169) ∧ w'.cell? ⟨ab, 1, none⟩ = some (.int .i64 t170) ∧ w'.cell? ⟨ag, 0, none⟩ = some (.int .u32 ak) ∧ w'.cell? ⟨ag, 1, none⟩ = some (.int .i64 al)) ∧ (Kd.R (Kd.int .u8) 5 w' w.heap.size (fun _ => True) (.slice a8 t166.length a9) t166) ∧ (w'.heap[ag]? = some (.cells #[.int .u32 ak, .int .i64 al] 25 (0, 0))) ∧ (w'.heap[am]? = some (.cells #[.int .u32 t156, .int .i64 t157] 25 (0, 0))) ∧ (w'.heap[an]? = some (.cells #[.int .u32 t161, .int .i64 t162] 25 (0, 0))) ∧ (w'.heap[ab]? = some (.cells #[.int .u32 t169, .int .i64 t170] 25 (0, 0))) ∧ (Below w.heap.size w w')) ?_ ?_
                rotate_left
                ·intro hJ15
                 refine three_ (i := 11) (j := 13) (k := 15) (Ni := some 87) (Nj := some 89) (Nk := some 91) #[true, true, true, true, true, true, true, true, true, true, true, true, true, false, true, false, false, false, false, false, false, false, false] #[true, true, true, true, true, true, true, true, true, true, true, false, true, true, true, false, false, false, false, false, false, false, false] #[true, true, true, true, true, true, true, true, true, true, true, false, true, false, true, true, false, false, false, false, false, false, false] rfl rfl rfl rfl rfl rfl (three_of HT_.out (by kernel_rfl)) (by decide) (by decide) (by decide) (fun K hK => ?_) (fun K hK => ?_) (fun K hK => ?_)
                 ·skip
                  have hcv79 := own_string (P := Try.prog) Try.underlying22 Try.underlying5 Try.underlying9 (Kd.own_of_R ae.out)
                  refine value_ (w1 := ?_) (v := ?_) (by rfl) rfl ?_ ?_
                  rotate_left 2
                  ·go_simp
                   constructor
                   ·rfl
                   ·rfl
                  clear hcv79
                  refine hK.out _ _ (k763a.b2 af.out (k763a.b2e aa.out)) (fun hHeld => ?_)
                  clear hK K
                  refine norm_ (a' := ?_) ?_ ?_
                  rotate_left
                  ·show Act.put _ (some 87) _ = _
                   simp only [Act.put, List.setIfInBounds_toArray, List.set_cons_zero, List.set_cons_succ, i64_w]
                   rfl
                  exact norm_ (by first | (simp only [putAll, Act.put, List.setIfInBounds_toArray, List.set_cons_zero, List.set_cons_succ]; done) | (simp only [putAll, Act.put, List.setIfInBounds_toArray, List.set_cons_zero, List.set_cons_succ]; rfl)) (hJ11 () _ ⟨hHeld, (by (with_reducible repeat (first | apply Kd.R_alloc | apply Kd.R_drewN | apply Kd.R_drew)); exact ae.out), (by (with_reducible repeat (first | refine blk_drewN ?_ _ | refine blk_drew ?_ | refine blk_alloc ?_ _)); exact aa.out), (by (with_reducible repeat (first | refine blk_drewN ?_ _ | refine blk_drew ?_ | refine blk_alloc ?_ _)); exact ac.out), (by (with_reducible repeat (first | refine blk_drewN ?_ _ | refine blk_drew ?_ | refine blk_alloc ?_ _)); exact ad.out), (by (with_reducible repeat (first | refine blk_drewN ?_ _ | refine blk_drew ?_ | refine blk_alloc ?_ _)); exact af.out), (by repeat (first | (with_reducible first | exact HB.out | apply below_alloc | apply pw_below_drewN | apply below_drew1 | refine below_set ?_ ah.out | refine below_set ?_ ai.out | refine below_set ?_ aj.out | refine below_set ?_ ao.out) | exact HB.out))⟩)
                 ·skip
                  have hcv79 := Kd.C_string (P := Try.prog) (A := A0) (c := c0) Try.underlying22 Try.underlying5 Try.underlying9 (Kd.C_below ba.out HB.out)
                  refine value_ (w1 := ?_) (v := ?_) (by rfl) rfl ?_ ?_
                  rotate_left 2
                  ·go_simp
                   constructor
                   ·rfl
                   ·rfl
                  clear hcv79
                  refine hK.out _ _ (k763a.b2 af.out (k763a.b2e aa.out)) (fun hHeld => ?_)
                  clear hK K
                  refine norm_ (a' := ?_) ?_ ?_
                  rotate_left
                  ·show Act.put _ (some 89) _ = _
                   simp only [Act.put, List.setIfInBounds_toArray, List.set_cons_zero, List.set_cons_succ, i64_w]
                   rfl
                  exact norm_ (by first | (simp only [putAll, Act.put, List.setIfInBounds_toArray, List.set_cons_zero, List.set_cons_succ]; done) | (simp only [putAll, Act.put, List.setIfInBounds_toArray, List.set_cons_zero, List.set_cons_succ]; rfl)) (hJ13 () _ ⟨hHeld, (by (with_reducible repeat (first | apply Kd.R_alloc | apply Kd.R_drewN | apply Kd.R_drew)); exact ae.out), (by (with_reducible repeat (first | refine blk_drewN ?_ _ | refine blk_drew ?_ | refine blk_alloc ?_ _)); exact aa.out), (by (with_reducible repeat (first | refine blk_drewN ?_ _ | refine blk_drew ?_ | refine blk_alloc ?_ _)); exact ac.out), (by (with_reducible repeat (first | refine blk_drewN ?_ _ | refine blk_drew ?_ | refine blk_alloc ?_ _)); exact ad.out), (by (with_reducible repeat (first | refine blk_drewN ?_ _ | refine blk_drew ?_ | refine blk_alloc ?_ _)); exact af.out), (by repeat (first | (with_reducible first | exact HB.out | apply below_alloc | apply pw_below_drewN | apply below_drew1 | refine below_set ?_ ah.out | refine below_set ?_ ai.out | refine below_set ?_ aj.out | refine below_set ?_ ao.out) | exact HB.out))⟩)
                 ·skip
                  refine goes_ Try.func13 (by kernel_rfl) rfl #[.agg #[.int .u32 ak, .int .i64 al]] (by rfl) rfl rfl (by (try simp only [List.map_toArray, List.map_cons, List.map_nil]); first | done | rfl) ?_
                  with_reducible refine (whirligigref10_Prefix.calls bc ak al t174 _ bh.out).mono ?_
                  rintro e w79 ⟨rfl, hb⟩
                  refine ⟨_, rfl, ?_⟩
                  replace ae := Aside0.mk (Kd.R_below (by (with_reducible repeat (first | apply Kd.R_alloc | apply Kd.R_drewN | apply Kd.R_drew)); exact ae.out) hb)
                  replace aa := Aside0.mk (k763a.q aa.out hb rfl)
                  replace ac := Aside0.mk (k763a.q ac.out hb rfl)
                  replace ad := Aside0.mk (k763a.q ad.out hb rfl)
                  replace af := Aside0.mk (k763a.q af.out hb rfl)
                  replace HB := Aside0.mk (below_step (by repeat (first | (with_reducible first | exact HB.out | apply below_alloc | apply pw_below_drewN | apply below_drew1 | refine below_set ?_ ah.out | refine below_set ?_ ai.out | refine below_set ?_ aj.out | refine below_set ?_ ao.out) | exact HB.out)) hb)
                  (try clear hb)
                  (try clear bb)
                  (try clear hk)
                  (try clear hi)
                  refine hK.out _ _ (k763a.b2 af.out (k763a.b2e aa.out)) (fun hHeld => ?_)
                  clear hK K
                  refine norm_ (a' := ?_) ?_ ?_
                  rotate_left
                  ·show Act.put _ (some 91) _ = _
                   simp only [Act.put, List.setIfInBounds_toArray, List.set_cons_zero, List.set_cons_succ, i64_w]
                   rfl
                  exact norm_ (by first | (simp only [putAll, Act.put, List.setIfInBounds_toArray, List.set_cons_zero, List.set_cons_succ]; done) | (simp only [putAll, Act.put, List.setIfInBounds_toArray, List.set_cons_zero, List.set_cons_succ]; rfl)) (hJ15 () _ ⟨hHeld, (by (with_reducible repeat (first | apply Kd.R_alloc | apply Kd.R_drewN | apply Kd.R_drew)); exact ae.out), (by (with_reducible repeat (first | refine blk_drewN ?_ _ | refine blk_drew ?_ | refine blk_alloc ?_ _)); exact aa.out), (by (with_reducible repeat (first | refine blk_drewN ?_ _ | refine blk_drew ?_ | refine blk_alloc ?_ _)); exact ac.out), (by (with_reducible repeat (first | refine blk_drewN ?_ _ | refine blk_drew ?_ | refine blk_alloc ?_ _)); exact ad.out), (by (with_reducible repeat (first | refine blk_drewN ?_ _ | refine blk_drew ?_ | refine blk_alloc ?_ _)); exact af.out), (by repeat (first | (with_reducible first | exact HB.out | apply below_alloc | apply pw_below_drewN | apply below_drew1 | refine below_set ?_ ah.out | refine below_set ?_ ai.out | refine below_set ?_ aj.out | refine below_set ?_ ao.out) | exact HB.out))⟩)
                ·skip
                 rintro _ w80 ⟨hS_, h0_, h1_, h2_, h3_, h4_, h5_⟩
                 have n0_ : Aside0 (Kd.R (Kd.int .u8) 5 w80 w.heap.size (fun _ => True) (.slice a8 t166.length a9) t166) := ⟨h0_⟩
                 have n1_ : Aside0 (w80.heap[ag]? = some (.cells #[.int .u32 ak, .int .i64 al] 25 (0, 0))) := ⟨h1_⟩
                 have n2_ : Aside0 (w80.heap[am]? = some (.cells #[.int .u32 t156, .int .i64 t157] 25 (0, 0))) := ⟨h2_⟩
                 have n3_ : Aside0 (w80.heap[an]? = some (.cells #[.int .u32 t161, .int .i64 t162] 25 (0, 0))) := ⟨h3_⟩
                 have n4_ : Aside0 (w80.heap[ab]? = some (.cells #[.int .u32 t169, .int .i64 t170] 25 (0, 0))) := ⟨h4_⟩
                 have n5_ : Aside0 (Below w.heap.size w w80) := ⟨h5_⟩
                 clear ae
                 clear aa
                 clear ac
                 clear ad
                 clear af
                 clear HB
                 clear h0_ h1_ h2_ h3_ h4_ h5_
                 have ae := n0_
                 have aa := n1_
                 have ac := n2_
                 have ad := n3_
                 have af := n4_
                 have HB := n5_
                 clear n0_ n1_ n2_ n3_ n4_ n5_
                 have hHeld : w80.cell? ⟨ab, 0, none⟩ = some (.int .u32 t169) ∧ w80.cell? ⟨ab, 1, none⟩ = some (.int .i64 t170) ∧ w80.cell? ⟨ag, 0, none⟩ = some (.int .u32 ak) ∧ w80.cell? ⟨ag, 1, none⟩ = some (.int .i64 al) := hS_
                 refine norm_ (a' := ?_) ?_ ?_
                 rotate_left
                 ·simp only [putAll, Act.put, List.setIfInBounds_toArray, List.set_cons_zero, List.set_cons_succ]
                  rfl
                 refine two_ (i := 11) (j := 13) (Ni := some 87) (Nj := some 89) #[true, true, true, true, true, true, true, true, true, true, true, true, true, false, true, true, false, false, false, false, false, false, false] #[true, true, true, true, true, true, true, true, true, true, true, false, true, true, true, true, false, false, false, false, false, false, false] rfl rfl rfl rfl (two_of HT_.out (by kernel_rfl)) (by decide) (by decide) (fun K hK => ?_) (fun K hK => ?_)
                 ·skip
                  have hcv81 := own_string (P := Try.prog) Try.underlying22 Try.underlying5 Try.underlying9 (Kd.own_of_R ae.out)
                  refine value_ (w1 := ?_) (v := ?_) (by rfl) rfl ?_ ?_
                  rotate_left 2
                  ·go_simp
                   constructor
                   ·rfl
                   ·rfl
                  clear hcv81
                  refine hK.out _ _ (k763a.b2 af.out (k763a.b2e aa.out)) (fun hHeld => ?_)
                  clear hK K
                  refine norm_ (a' := ?_) ?_ ?_
                  rotate_left
                  ·show Act.put _ (some 87) _ = _
                   simp only [Act.put, List.setIfInBounds_toArray, List.set_cons_zero, List.set_cons_succ, i64_w]
                   rfl
                  exact norm_ (by first | (simp only [putAll, Act.put, List.setIfInBounds_toArray, List.set_cons_zero, List.set_cons_succ]; done) | (simp only [putAll, Act.put, List.setIfInBounds_toArray, List.set_cons_zero, List.set_cons_succ]; rfl)) (hJ11_15 () _ ⟨hHeld, (by (with_reducible repeat (first | apply Kd.R_alloc | apply Kd.R_drewN | apply Kd.R_drew)); exact ae.out), (by (with_reducible repeat (first | refine blk_drewN ?_ _ | refine blk_drew ?_ | refine blk_alloc ?_ _)); exact aa.out), (by (with_reducible repeat (first | refine blk_drewN ?_ _ | refine blk_drew ?_ | refine blk_alloc ?_ _)); exact ac.out), (by (with_reducible repeat (first | refine blk_drewN ?_ _ | refine blk_drew ?_ | refine blk_alloc ?_ _)); exact ad.out), (by (with_reducible repeat (first | refine blk_drewN ?_ _ | refine blk_drew ?_ | refine blk_alloc ?_ _)); exact af.out), (by repeat (first | (with_reducible first | exact HB.out | apply below_alloc | apply pw_below_drewN | apply below_drew1 | refine below_set ?_ ah.out | refine below_set ?_ ai.out | refine below_set ?_ aj.out | refine below_set ?_ ao.out) | exact HB.out))⟩)
                 ·skip
                  have hcv81 := Kd.C_string (P := Try.prog) (A := A0) (c := c0) Try.underlying22 Try.underlying5 Try.underlying9 (Kd.C_below ba.out HB.out)
                  refine value_ (w1 := ?_) (v := ?_) (by rfl) rfl ?_ ?_
                  rotate_left 2
                  ·go_simp
                   constructor
                   ·rfl
                   ·rfl
                  clear hcv81
                  refine hK.out _ _ (k763a.b2 af.out (k763a.b2e aa.out)) (fun hHeld => ?_)
                  clear hK K
                  refine norm_ (a' := ?_) ?_ ?_
                  rotate_left
                  ·show Act.put _ (some 89) _ = _
                   simp only [Act.put, List.setIfInBounds_toArray, List.set_cons_zero, List.set_cons_succ, i64_w]
                   rfl
                  refine pure_ (i := 16) (N := some 92) (v := ?_) (a' := ?_) #[true, true, true, true, true, true, true, true, true, true, true, false, true, true, true, true, true, false, false, false, false, false, false] rfl rfl (any_of HT_.out (by kernel_rfl)) (fun _ _ _ h => h) (Or.inl ⟨by rfl, ?_⟩) ?_ ?_
                  rotate_left
                  ·intro w'
                   go_simp
                   with_reducible rfl
                  rotate_left
                  ·simp only [Act.put, List.setIfInBounds_toArray, List.set_cons_zero, List.set_cons_succ, i64_w]
                   rfl
                  exact norm_ (by first | (simp only [putAll, Act.put, List.setIfInBounds_toArray, List.set_cons_zero, List.set_cons_succ]; done) | (simp only [putAll, Act.put, List.setIfInBounds_toArray, List.set_cons_zero, List.set_cons_succ]; rfl)) (hJ13_15 () _ ⟨hHeld, (by (with_reducible repeat (first | apply Kd.R_alloc | apply Kd.R_drewN | apply Kd.R_drew)); exact ae.out), (by (with_reducible repeat (first | refine blk_drewN ?_ _ | refine blk_drew ?_ | refine blk_alloc ?_ _)); exact aa.out), (by (with_reducible repeat (first | refine blk_drewN ?_ _ | refine blk_drew ?_ | refine blk_alloc ?_ _)); exact ac.out), (by (with_reducible repeat (first | refine blk_drewN ?_ _ | refine blk_drew ?_ | refine blk_alloc ?_ _)); exact ad.out), (by (with_reducible repeat (first | refine blk_drewN ?_ _ | refine blk_drew ?_ | refine blk_alloc ?_ _)); exact af.out), (by repeat (first | (with_reducible first | exact HB.out | apply below_alloc | apply pw_below_drewN | apply below_drew1 | refine below_set ?_ ah.out | refine below_set ?_ ai.out | refine below_set ?_ aj.out | refine below_set ?_ ao.out) | exact HB.out))⟩)
               ·skip
                rintro _ w80 ⟨hS_, h0_, h1_, h2_, h3_, h4_, h5_⟩
                have n0_ : Aside0 (Kd.R (Kd.int .u8) 5 w80 w.heap.size (fun _ => True) (.slice a8 t166.length a9) t166) := ⟨h0_⟩
                have n1_ : Aside0 (w80.heap[ag]? = some (.cells #[.int .u32 ak, .int .i64 al] 25 (0, 0))) := ⟨h1_⟩
                have n2_ : Aside0 (w80.heap[am]? = some (.cells #[.int .u32 t156, .int .i64 t157] 25 (0, 0))) := ⟨h2_⟩
                have n3_ : Aside0 (w80.heap[an]? = some (.cells #[.int .u32 t161, .int .i64 t162] 25 (0, 0))) := ⟨h3_⟩
                have n4_ : Aside0 (w80.heap[ab]? = some (.cells #[.int .u32 t169, .int .i64 t170] 25 (0, 0))) := ⟨h4_⟩
                have n5_ : Aside0 (Below w.heap.size w w80) := ⟨h5_⟩
                clear ae
                clear aa
                clear ac
                clear ad
                clear af
                clear HB
                clear h0_ h1_ h2_ h3_ h4_ h5_
                have ae := n0_
                have aa := n1_
                have ac := n2_
                have ad := n3_
                have af := n4_
                have HB := n5_
                clear n0_ n1_ n2_ n3_ n4_ n5_
                have hHeld : w80.cell? ⟨ab, 0, none⟩ = some (.int .u32 t169) ∧ w80.cell? ⟨ab, 1, none⟩ = some (.int .i64 t170) ∧ w80.cell? ⟨ag, 0, none⟩ = some (.int .u32 ak) ∧ w80.cell? ⟨ag, 1, none⟩ = some (.int .i64 al) := hS_
                refine norm_ (a' := ?_) ?_ ?_
                rotate_left
                ·simp only [putAll, Act.put, List.setIfInBounds_toArray, List.set_cons_zero, List.set_cons_succ]
                 rfl
                refine two_ (i := 11) (j := 15) (Ni := some 87) (Nj := some 91) #[true, true, true, true, true, true, true, true, true, true, true, true, true, true, true, false, false, false, false, false, false, false, false] #[true, true, true, true, true, true, true, true, true, true, true, false, true, true, true, true, false, false, false, false, false, false, false] rfl rfl rfl rfl (two_of HT_.out (by kernel_rfl)) (by decide) (by decide) (fun K hK => ?_) (fun K hK => ?_)
                ·skip
                 have hcv81 := own_string (P := Try.prog) Try.underlying22 Try.underlying5 Try.underlying9 (Kd.own_of_R ae.out)
                 refine value_ (w1 := ?_) (v := ?_) (by rfl) rfl ?_ ?_
                 rotate_left 2
                 ·go_simp
                  constructor
                  ·rfl
                  ·rfl
                 clear hcv81
                 refine hK.out _ _ (k763a.b2 af.out (k763a.b2e aa.out)) (fun hHeld => ?_)
                 clear hK K
                 refine norm_ (a' := ?_) ?_ ?_
                 rotate_left
                 ·show Act.put _ (some 87) _ = _
                  simp only [Act.put, List.setIfInBounds_toArray, List.set_cons_zero, List.set_cons_succ, i64_w]
                  rfl
                 exact norm_ (by first | (simp only [putAll, Act.put, List.setIfInBounds_toArray, List.set_cons_zero, List.set_cons_succ]; done) | (simp only [putAll, Act.put, List.setIfInBounds_toArray, List.set_cons_zero, List.set_cons_succ]; rfl)) (hJ11_13 () _ ⟨hHeld, (by (with_reducible repeat (first | apply Kd.R_alloc | apply Kd.R_drewN | apply Kd.R_drew)); exact ae.out), (by (with_reducible repeat (first | refine blk_drewN ?_ _ | refine blk_drew ?_ | refine blk_alloc ?_ _)); exact aa.out), (by (with_reducible repeat (first | refine blk_drewN ?_ _ | refine blk_drew ?_ | refine blk_alloc ?_ _)); exact ac.out), (by (with_reducible repeat (first | refine blk_drewN ?_ _ | refine blk_drew ?_ | refine blk_alloc ?_ _)); exact ad.out), (by (with_reducible repeat (first | refine blk_drewN ?_ _ | refine blk_drew ?_ | refine blk_alloc ?_ _)); exact af.out), (by repeat (first | (with_reducible first | exact HB.out | apply below_alloc | apply pw_below_drewN | apply below_drew1 | refine below_set ?_ ah.out | refine below_set ?_ ai.out | refine below_set ?_ aj.out | refine below_set ?_ ao.out) | exact HB.out))⟩)
                ·skip
                 refine goes_ Try.func13 (by kernel_rfl) rfl #[.agg #[.int .u32 ak, .int .i64 al]] (by rfl) rfl rfl (by (try simp only [List.map_toArray, List.map_cons, List.map_nil]); first | done | rfl) ?_
                 with_reducible refine (whirligigref10_Prefix.calls bc ak al t174 _ bh.out).mono ?_
                 rintro e w81 ⟨rfl, hb⟩
                 refine ⟨_, rfl, ?_⟩
                 replace ae := Aside0.mk (Kd.R_below (by (with_reducible repeat (first | apply Kd.R_alloc | apply Kd.R_drewN | apply Kd.R_drew)); exact ae.out) hb)
                 replace aa := Aside0.mk (k763a.q aa.out hb rfl)
                 replace ac := Aside0.mk (k763a.q ac.out hb rfl)
                 replace ad := Aside0.mk (k763a.q ad.out hb rfl)
                 replace af := Aside0.mk (k763a.q af.out hb rfl)
                 replace HB := Aside0.mk (below_step (by repeat (first | (with_reducible first | exact HB.out | apply below_alloc | apply pw_below_drewN | apply below_drew1 | refine below_set ?_ ah.out | refine below_set ?_ ai.out | refine below_set ?_ aj.out | refine below_set ?_ ao.out) | exact HB.out)) hb)
                 (try clear hb)
                 (try clear bb)
                 (try clear hk)
                 (try clear hi)
                 refine hK.out _ _ (k763a.b2 af.out (k763a.b2e aa.out)) (fun hHeld => ?_)
                 clear hK K
                 refine norm_ (a' := ?_) ?_ ?_
                 rotate_left
                 ·show Act.put _ (some 91) _ = _
                  simp only [Act.put, List.setIfInBounds_toArray, List.set_cons_zero, List.set_cons_succ, i64_w]
                  rfl
                 refine pure_ (i := 16) (N := some 92) (v := ?_) (a' := ?_) #[true, true, true, true, true, true, true, true, true, true, true, false, true, true, true, true, true, false, false, false, false, false, false] rfl rfl (any_of HT_.out (by kernel_rfl)) (fun _ _ _ h => h) (Or.inl ⟨by rfl, ?_⟩) ?_ ?_
                 rotate_left
                 ·intro w'
                  go_simp
                  with_reducible rfl
                 rotate_left
                 ·simp only [Act.put, List.setIfInBounds_toArray, List.set_cons_zero, List.set_cons_succ, i64_w]
                  rfl
                 exact norm_ (by first | (simp only [putAll, Act.put, List.setIfInBounds_toArray, List.set_cons_zero, List.set_cons_succ]; done) | (simp only [putAll, Act.put, List.setIfInBounds_toArray, List.set_cons_zero, List.set_cons_succ]; rfl)) (hJ13_15 () _ ⟨hHeld, (by (with_reducible repeat (first | apply Kd.R_alloc | apply Kd.R_drewN | apply Kd.R_drew)); exact ae.out), (by (with_reducible repeat (first | refine blk_drewN ?_ _ | refine blk_drew ?_ | refine blk_alloc ?_ _)); exact aa.out), (by (with_reducible repeat (first | refine blk_drewN ?_ _ | refine blk_drew ?_ | refine blk_alloc ?_ _)); exact ac.out), (by (with_reducible repeat (first | refine blk_drewN ?_ _ | refine blk_drew ?_ | refine blk_alloc ?_ _)); exact ad.out), (by (with_reducible repeat (first | refine blk_drewN ?_ _ | refine blk_drew ?_ | refine blk_alloc ?_ _)); exact af.out), (by repeat (first | (with_reducible first | exact HB.out | apply below_alloc | apply pw_below_drewN | apply below_drew1 | refine below_set ?_ ah.out | refine below_set ?_ ai.out | refine below_set ?_ aj.out | refine below_set ?_ ao.out) | exact HB.out))⟩)
              ·skip
               rintro _ w80 ⟨hS_, h0_, h1_, h2_, h3_, h4_, h5_⟩
               have n0_ : Aside0 (Kd.R (Kd.int .u8) 5 w80 w.heap.size (fun _ => True) (.slice a8 t166.length a9) t166) := ⟨h0_⟩
               have n1_ : Aside0 (w80.heap[ag]? = some (.cells #[.int .u32 ak, .int .i64 al] 25 (0, 0))) := ⟨h1_⟩
               have n2_ : Aside0 (w80.heap[am]? = some (.cells #[.int .u32 t156, .int .i64 t157] 25 (0, 0))) := ⟨h2_⟩
               have n3_ : Aside0 (w80.heap[an]? = some (.cells #[.int .u32 t161, .int .i64 t162] 25 (0, 0))) := ⟨h3_⟩
               have n4_ : Aside0 (w80.heap[ab]? = some (.cells #[.int .u32 t169, .int .i64 t170] 25 (0, 0))) := ⟨h4_⟩
               have n5_ : Aside0 (Below w.heap.size w w80) := ⟨h5_⟩
               clear ae
               clear aa
               clear ac
               clear ad
               clear af
               clear HB
               clear h0_ h1_ h2_ h3_ h4_ h5_
               have ae := n0_
               have aa := n1_
               have ac := n2_
               have ad := n3_
               have af := n4_
               have HB := n5_
               clear n0_ n1_ n2_ n3_ n4_ n5_
               have hHeld : w80.cell? ⟨ab, 0, none⟩ = some (.int .u32 t169) ∧ w80.cell? ⟨ab, 1, none⟩ = some (.int .i64 t170) ∧ w80.cell? ⟨ag, 0, none⟩ = some (.int .u32 ak) ∧ w80.cell? ⟨ag, 1, none⟩ = some (.int .i64 al) := hS_
               refine norm_ (a' := ?_) ?_ ?_
               rotate_left
               ·simp only [putAll, Act.put, List.setIfInBounds_toArray, List.set_cons_zero, List.set_cons_succ]
                rfl
               refine two_ (i := 13) (j := 15) (Ni := some 89) (Nj := some 91) #[true, true, true, true, true, true, true, true, true, true, true, true, true, true, true, false, false, false, false, false, false, false, false] #[true, true, true, true, true, true, true, true, true, true, true, true, true, false, true, true, false, false, false, false, false, false, false] rfl rfl rfl rfl (two_of HT_.out (by kernel_rfl)) (by decide) (by decide) (fun K hK => ?_) (fun K hK => ?_)
               ·skip
                have hcv81 := Kd.C_string (P := Try.prog) (A := A0) (c := c0) Try.underlying22 Try.underlying5 Try.underlying9 (Kd.C_below ba.out HB.out)
                refine value_ (w1 := ?_) (v := ?_) (by rfl) rfl ?_ ?_
                rotate_left 2
                ·go_simp
                 constructor
                 ·rfl
                 ·rfl
                clear hcv81
                refine hK.out _ _ (k763a.b2 af.out (k763a.b2e aa.out)) (fun hHeld => ?_)
                clear hK K
                refine norm_ (a' := ?_) ?_ ?_
                rotate_left
                ·show Act.put _ (some 89) _ = _
                 simp only [Act.put, List.setIfInBounds_toArray, List.set_cons_zero, List.set_cons_succ, i64_w]
                 rfl
                exact norm_ (by first | (simp only [putAll, Act.put, List.setIfInBounds_toArray, List.set_cons_zero, List.set_cons_succ]; done) | (simp only [putAll, Act.put, List.setIfInBounds_toArray, List.set_cons_zero, List.set_cons_succ]; rfl)) (hJ11_13 () _ ⟨hHeld, (by (with_reducible repeat (first | apply Kd.R_alloc | apply Kd.R_drewN | apply Kd.R_drew)); exact ae.out), (by (with_reducible repeat (first | refine blk_drewN ?_ _ | refine blk_drew ?_ | refine blk_alloc ?_ _)); exact aa.out), (by (with_reducible repeat (first | refine blk_drewN ?_ _ | refine blk_drew ?_ | refine blk_alloc ?_ _)); exact ac.out), (by (with_reducible repeat (first | refine blk_drewN ?_ _ | refine blk_drew ?_ | refine blk_alloc ?_ _)); exact ad.out), (by (with_reducible repeat (first | refine blk_drewN ?_ _ | refine blk_drew ?_ | refine blk_alloc ?_ _)); exact af.out), (by repeat (first | (with_reducible first | exact HB.out | apply below_alloc | apply pw_below_drewN | apply below_drew1 | refine below_set ?_ ah.out | refine below_set ?_ ai.out | refine below_set ?_ aj.out | refine below_set ?_ ao.out) | exact HB.out))⟩)
               ·skip
                refine goes_ Try.func13 (by kernel_rfl) rfl #[.agg #[.int .u32 ak, .int .i64 al]] (by rfl) rfl rfl (by (try simp only [List.map_toArray, List.map_cons, List.map_nil]); first | done | rfl) ?_
                with_reducible refine (whirligigref10_Prefix.calls bc ak al t174 _ bh.out).mono ?_
                rintro e w81 ⟨rfl, hb⟩
                refine ⟨_, rfl, ?_⟩
                replace ae := Aside0.mk (Kd.R_below (by (with_reducible repeat (first | apply Kd.R_alloc | apply Kd.R_drewN | apply Kd.R_drew)); exact ae.out) hb)
                replace aa := Aside0.mk (k763a.q aa.out hb rfl)
                replace ac := Aside0.mk (k763a.q ac.out hb rfl)
                replace ad := Aside0.mk (k763a.q ad.out hb rfl)
                replace af := Aside0.mk (k763a.q af.out hb rfl)
                replace HB := Aside0.mk (below_step (by repeat (first | (with_reducible first | exact HB.out | apply below_alloc | apply pw_below_drewN | apply below_drew1 | refine below_set ?_ ah.out | refine below_set ?_ ai.out | refine below_set ?_ aj.out | refine below_set ?_ ao.out) | exact HB.out)) hb)
                (try clear hb)
                (try clear bb)
                (try clear hk)
                (try clear hi)
                refine hK.out _ _ (k763a.b2 af.out (k763a.b2e aa.out)) (fun hHeld => ?_)
                clear hK K
                refine norm_ (a' := ?_) ?_ ?_
                rotate_left
                ·show Act.put _ (some 91) _ = _
                 simp only [Act.put, List.setIfInBounds_toArray, List.set_cons_zero, List.set_cons_succ, i64_w]
                 rfl
                exact norm_ (by first | (simp only [putAll, Act.put, List.setIfInBounds_toArray, List.set_cons_zero, List.set_cons_succ]; done) | (simp only [putAll, Act.put, List.setIfInBounds_toArray, List.set_cons_zero, List.set_cons_succ]; rfl)) (hJ11_15 () _ ⟨hHeld, (by (with_reducible repeat (first | apply Kd.R_alloc | apply Kd.R_drewN | apply Kd.R_drew)); exact ae.out), (by (with_reducible repeat (first | refine blk_drewN ?_ _ | refine blk_drew ?_ | refine blk_alloc ?_ _)); exact aa.out), (by (with_reducible repeat (first | refine blk_drewN ?_ _ | refine blk_drew ?_ | refine blk_alloc ?_ _)); exact ac.out), (by (with_reducible repeat (first | refine blk_drewN ?_ _ | refine blk_drew ?_ | refine blk_alloc ?_ _)); exact ad.out), (by (with_reducible repeat (first | refine blk_drewN ?_ _ | refine blk_drew ?_ | refine blk_alloc ?_ _)); exact af.out), (by repeat (first | (with_reducible first | exact HB.out | apply below_alloc | apply pw_below_drewN | apply below_drew1 | refine below_set ?_ ah.out | refine below_set ?_ ai.out | refine below_set ?_ aj.out | refine below_set ?_ ao.out) | exact HB.out))⟩)
             ·skip
              rintro _ w81 ⟨hS_, h0_, h1_, h2_, h3_, h4_, h5_⟩
              have n0_ : Aside0 (Kd.R (Kd.int .u8) 5 w81 w.heap.size (fun _ => True) (.slice a8 t166.length a9) t166) := ⟨h0_⟩
              have n1_ : Aside0 (w81.heap[ag]? = some (.cells #[.int .u32 ak, .int .i64 al] 25 (0, 0))) := ⟨h1_⟩
              have n2_ : Aside0 (w81.heap[am]? = some (.cells #[.int .u32 t156, .int .i64 t157] 25 (0, 0))) := ⟨h2_⟩
              have n3_ : Aside0 (w81.heap[an]? = some (.cells #[.int .u32 t161, .int .i64 t162] 25 (0, 0))) := ⟨h3_⟩
              have n4_ : Aside0 (w81.heap[ab]? = some (.cells #[.int .u32 t169, .int .i64 t170] 25 (0, 0))) := ⟨h4_⟩
              have n5_ : Aside0 (Below w.heap.size w w81) := ⟨h5_⟩
              clear ae
              clear aa
              clear ac
              clear ad
              clear af
              clear HB
              clear h0_ h1_ h2_ h3_ h4_ h5_
              have ae := n0_
              have aa := n1_
              have ac := n2_
              have ad := n3_
              have af := n4_
              have HB := n5_
              clear n0_ n1_ n2_ n3_ n4_ n5_
              have hHeld : w81.cell? ⟨ab, 0, none⟩ = some (.int .u32 t169) ∧ w81.cell? ⟨ab, 1, none⟩ = some (.int .i64 t170) ∧ w81.cell? ⟨ag, 0, none⟩ = some (.int .u32 ak) ∧ w81.cell? ⟨ag, 1, none⟩ = some (.int .i64 al) := hS_
              refine norm_ (a' := ?_) ?_ ?_
              rotate_left
              ·simp only [putAll, Act.put, List.setIfInBounds_toArray, List.set_cons_zero, List.set_cons_succ]
               rfl
              refine one_ (i := 11) (N := some 87) #[true, true, true, true, true, true, true, true, true, true, true, true, true, true, true, true, true, false, false, false, false, false, false] rfl rfl (one_of HT_.out (by kernel_rfl)) (by decide) (fun K hK => ?_)
              have hcv82 := own_string (P := Try.prog) Try.underlying22 Try.underlying5 Try.underlying9 (Kd.own_of_R ae.out)
              refine value_ (w1 := ?_) (v := ?_) (by rfl) rfl ?_ ?_
              rotate_left 2
              ·go_simp
               constructor
               ·rfl
               ·rfl
              clear hcv82
              refine hK.out _ _ (k763a.b2 af.out (k763a.b2e aa.out)) (fun hHeld => ?_)
              clear hK K
              refine norm_ (a' := ?_) ?_ ?_
              rotate_left
              ·show Act.put _ (some 87) _ = _
               simp only [Act.put, List.setIfInBounds_toArray, List.set_cons_zero, List.set_cons_succ, i64_w]
               rfl
              exact norm_ (by first | (simp only [putAll, Act.put, List.setIfInBounds_toArray, List.set_cons_zero, List.set_cons_succ]; done) | (simp only [putAll, Act.put, List.setIfInBounds_toArray, List.set_cons_zero, List.set_cons_succ]; rfl)) (hJ11_13_15 () _ ⟨hHeld, (by (with_reducible repeat (first | apply Kd.R_alloc | apply Kd.R_drewN | apply Kd.R_drew)); exact ae.out), (by (with_reducible repeat (first | refine blk_drewN ?_ _ | refine blk_drew ?_ | refine blk_alloc ?_ _)); exact aa.out), (by (with_reducible repeat (first | refine blk_drewN ?_ _ | refine blk_drew ?_ | refine blk_alloc ?_ _)); exact ac.out), (by (with_reducible repeat (first | refine blk_drewN ?_ _ | refine blk_drew ?_ | refine blk_alloc ?_ _)); exact ad.out), (by (with_reducible repeat (first | refine blk_drewN ?_ _ | refine blk_drew ?_ | refine blk_alloc ?_ _)); exact af.out), (by repeat (first | (with_reducible first | exact HB.out | apply below_alloc | apply pw_below_drewN | apply below_drew1 | refine below_set ?_ ah.out | refine below_set ?_ ai.out | refine below_set ?_ aj.out | refine below_set ?_ ao.out) | exact HB.out))⟩)
            ·skip
             rintro _ w81 ⟨hS_, h0_, h1_, h2_, h3_, h4_, h5_⟩
             have n0_ : Aside0 (Kd.R (Kd.int .u8) 5 w81 w.heap.size (fun _ => True) (.slice a8 t166.length a9) t166) := ⟨h0_⟩
             have n1_ : Aside0 (w81.heap[ag]? = some (.cells #[.int .u32 ak, .int .i64 al] 25 (0, 0))) := ⟨h1_⟩
             have n2_ : Aside0 (w81.heap[am]? = some (.cells #[.int .u32 t156, .int .i64 t157] 25 (0, 0))) := ⟨h2_⟩
             have n3_ : Aside0 (w81.heap[an]? = some (.cells #[.int .u32 t161, .int .i64 t162] 25 (0, 0))) := ⟨h3_⟩
             have n4_ : Aside0 (w81.heap[ab]? = some (.cells #[.int .u32 t169, .int .i64 t170] 25 (0, 0))) := ⟨h4_⟩
             have n5_ : Aside0 (Below w.heap.size w w81) := ⟨h5_⟩
             clear ae
             clear aa
             clear ac
             clear ad
             clear af
             clear HB
             clear h0_ h1_ h2_ h3_ h4_ h5_
             have ae := n0_
             have aa := n1_
             have ac := n2_
             have ad := n3_
             have af := n4_
             have HB := n5_
             clear n0_ n1_ n2_ n3_ n4_ n5_
             have hHeld : w81.cell? ⟨ab, 0, none⟩ = some (.int .u32 t169) ∧ w81.cell? ⟨ab, 1, none⟩ = some (.int .i64 t170) ∧ w81.cell? ⟨ag, 0, none⟩ = some (.int .u32 ak) ∧ w81.cell? ⟨ag, 1, none⟩ = some (.int .i64 al) := hS_
             refine norm_ (a' := ?_) ?_ ?_
             rotate_left
             ·simp only [putAll, Act.put, List.setIfInBounds_toArray, List.set_cons_zero, List.set_cons_succ]
              rfl
             refine one_ (i := 13) (N := some 89) #[true, true, true, true, true, true, true, true, true, true, true, true, true, true, true, true, false, false, false, false, false, false, false] rfl rfl (one_of HT_.out (by kernel_rfl)) (by decide) (fun K hK => ?_)
             have hcv82 := Kd.C_string (P := Try.prog) (A := A0) (c := c0) Try.underlying22 Try.underlying5 Try.underlying9 (Kd.C_below ba.out HB.out)
             refine value_ (w1 := ?_) (v := ?_) (by rfl) rfl ?_ ?_
             rotate_left 2
             ·go_simp
              constructor
              ·rfl
              ·rfl
             clear hcv82
             refine hK.out _ _ (k763a.b2 af.out (k763a.b2e aa.out)) (fun hHeld => ?_)
             clear hK K
             refine norm_ (a' := ?_) ?_ ?_
             rotate_left
             ·show Act.put _ (some 89) _ = _
              simp only [Act.put, List.setIfInBounds_toArray, List.set_cons_zero, List.set_cons_succ, i64_w]
              rfl
             refine pure_ (i := 16) (N := some 92) (v := ?_) (a' := ?_) #[true, true, true, true, true, true, true, true, true, true, true, true, true, true, true, true, true, false, false, false, false, false, false] rfl rfl (any_of HT_.out (by kernel_rfl)) (fun _ _ _ h => h) (Or.inl ⟨by rfl, ?_⟩) ?_ ?_
             rotate_left
             ·intro w'
              go_simp
              with_reducible rfl
             rotate_left
             ·simp only [Act.put, List.setIfInBounds_toArray, List.set_cons_zero, List.set_cons_succ, i64_w]
              rfl
             exact norm_ (by first | (simp only [putAll, Act.put, List.setIfInBounds_toArray, List.set_cons_zero, List.set_cons_succ]; done) | (simp only [putAll, Act.put, List.setIfInBounds_toArray, List.set_cons_zero, List.set_cons_succ]; rfl)) (hJ11_13_15 () _ ⟨hHeld, (by (with_reducible repeat (first | apply Kd.R_alloc | apply Kd.R_drewN | apply Kd.R_drew)); exact ae.out), (by (with_reducible repeat (first | refine blk_drewN ?_ _ | refine blk_drew ?_ | refine blk_alloc ?_ _)); exact aa.out), (by (with_reducible repeat (first | refine blk_drewN ?_ _ | refine blk_drew ?_ | refine blk_alloc ?_ _)); exact ac.out), (by (with_reducible repeat (first | refine blk_drewN ?_ _ | refine blk_drew ?_ | refine blk_alloc ?_ _)); exact ad.out), (by (with_reducible repeat (first | refine blk_drewN ?_ _ | refine blk_drew ?_ | refine blk_alloc ?_ _)); exact af.out), (by repeat (first | (with_reducible first | exact HB.out | apply below_alloc | apply pw_below_drewN | apply below_drew1 | refine below_set ?_ ah.out | refine below_set ?_ ai.out | refine below_set ?_ aj.out | refine below_set ?_ ao.out) | exact HB.out))⟩)
           ·skip
            rintro _ w81 ⟨hS_, h0_, h1_, h2_, h3_, h4_, h5_⟩
            have n0_ : Aside0 (Kd.R (Kd.int .u8) 5 w81 w.heap.size (fun _ => True) (.slice a8 t166.length a9) t166) := ⟨h0_⟩
            have n1_ : Aside0 (w81.heap[ag]? = some (.cells #[.int .u32 ak, .int .i64 al] 25 (0, 0))) := ⟨h1_⟩
            have n2_ : Aside0 (w81.heap[am]? = some (.cells #[.int .u32 t156, .int .i64 t157] 25 (0, 0))) := ⟨h2_⟩
            have n3_ : Aside0 (w81.heap[an]? = some (.cells #[.int .u32 t161, .int .i64 t162] 25 (0, 0))) := ⟨h3_⟩
            have n4_ : Aside0 (w81.heap[ab]? = some (.cells #[.int .u32 t169, .int .i64 t170] 25 (0, 0))) := ⟨h4_⟩
            have n5_ : Aside0 (Below w.heap.size w w81) := ⟨h5_⟩
            clear ae
            clear aa
            clear ac
            clear ad
            clear af
            clear HB
            clear h0_ h1_ h2_ h3_ h4_ h5_
            have ae := n0_
            have aa := n1_
            have ac := n2_
            have ad := n3_
            have af := n4_
            have HB := n5_
            clear n0_ n1_ n2_ n3_ n4_ n5_
            have hHeld : w81.cell? ⟨ab, 0, none⟩ = some (.int .u32 t169) ∧ w81.cell? ⟨ab, 1, none⟩ = some (.int .i64 t170) ∧ w81.cell? ⟨ag, 0, none⟩ = some (.int .u32 ak) ∧ w81.cell? ⟨ag, 1, none⟩ = some (.int .i64 al) := hS_
            refine norm_ (a' := ?_) ?_ ?_
            rotate_left
            ·simp only [putAll, Act.put, List.setIfInBounds_toArray, List.set_cons_zero, List.set_cons_succ]
             rfl
            refine one_ (i := 15) (N := some 91) #[true, true, true, true, true, true, true, true, true, true, true, true, true, true, true, true, false, false, false, false, false, false, false] rfl rfl (one_of HT_.out (by kernel_rfl)) (by decide) (fun K hK => ?_)
            refine goes_ Try.func13 (by kernel_rfl) rfl #[.agg #[.int .u32 ak, .int .i64 al]] (by rfl) rfl rfl (by (try simp only [List.map_toArray, List.map_cons, List.map_nil]); first | done | rfl) ?_
            with_reducible refine (whirligigref10_Prefix.calls bc ak al t174 _ bh.out).mono ?_
            rintro e w82 ⟨rfl, hb⟩
            refine ⟨_, rfl, ?_⟩
            replace ae := Aside0.mk (Kd.R_below (by (with_reducible repeat (first | apply Kd.R_alloc | apply Kd.R_drewN | apply Kd.R_drew)); exact ae.out) hb)
            replace aa := Aside0.mk (k763a.q aa.out hb rfl)
            replace ac := Aside0.mk (k763a.q ac.out hb rfl)
            replace ad := Aside0.mk (k763a.q ad.out hb rfl)
            replace af := Aside0.mk (k763a.q af.out hb rfl)
            replace HB := Aside0.mk (below_step (by repeat (first | (with_reducible first | exact HB.out | apply below_alloc | apply pw_below_drewN | apply below_drew1 | refine below_set ?_ ah.out | refine below_set ?_ ai.out | refine below_set ?_ aj.out | refine below_set ?_ ao.out) | exact HB.out)) hb)
            (try clear hb)
            (try clear bb)
            (try clear hk)
            (try clear hi)
            refine hK.out _ _ (k763a.b2 af.out (k763a.b2e aa.out)) (fun hHeld => ?_)
            clear hK K
            refine norm_ (a' := ?_) ?_ ?_
            rotate_left
            ·show Act.put _ (some 91) _ = _
             simp only [Act.put, List.setIfInBounds_toArray, List.set_cons_zero, List.set_cons_succ, i64_w]
             rfl
            refine pure_ (i := 16) (N := some 92) (v := ?_) (a' := ?_) #[true, true, true, true, true, true, true, true, true, true, true, true, true, true, true, true, true, false, false, false, false, false, false] rfl rfl (any_of HT_.out (by kernel_rfl)) (fun _ _ _ h => h) (Or.inl ⟨by rfl, ?_⟩) ?_ ?_
            rotate_left
            ·intro w'
             go_simp
             with_reducible rfl
            rotate_left
            ·simp only [Act.put, List.setIfInBounds_toArray, List.set_cons_zero, List.set_cons_succ, i64_w]
             rfl
            exact norm_ (by first | (simp only [putAll, Act.put, List.setIfInBounds_toArray, List.set_cons_zero, List.set_cons_succ]; done) | (simp only [putAll, Act.put, List.setIfInBounds_toArray, List.set_cons_zero, List.set_cons_succ]; rfl)) (hJ11_13_15 () _ ⟨hHeld, (by (with_reducible repeat (first | apply Kd.R_alloc | apply Kd.R_drewN | apply Kd.R_drew)); exact ae.out), (by (with_reducible repeat (first | refine blk_drewN ?_ _ | refine blk_drew ?_ | refine blk_alloc ?_ _)); exact aa.out), (by (with_reducible repeat (first | refine blk_drewN ?_ _ | refine blk_drew ?_ | refine blk_alloc ?_ _)); exact ac.out), (by (with_reducible repeat (first | refine blk_drewN ?_ _ | refine blk_drew ?_ | refine blk_alloc ?_ _)); exact ad.out), (by (with_reducible repeat (first | refine blk_drewN ?_ _ | refine blk_drew ?_ | refine blk_alloc ?_ _)); exact af.out), (by repeat (first | (with_reducible first | exact HB.out | apply below_alloc | apply pw_below_drewN | apply below_drew1 | refine below_set ?_ ah.out | refine below_set ?_ ai.out | refine below_set ?_ aj.out | refine below_set ?_ ao.out) | exact HB.out))⟩)
          rintro _ w82 ⟨hS_, h0_, h1_, h2_, h3_, h4_, h5_⟩
          have n0_ : Aside0 (Kd.R (Kd.int .u8) 5 w82 w.heap.size (fun _ => True) (.slice a8 t166.length a9) t166) := ⟨h0_⟩
          have n1_ : Aside0 (w82.heap[ag]? = some (.cells #[.int .u32 ak, .int .i64 al] 25 (0, 0))) := ⟨h1_⟩
          have n2_ : Aside0 (w82.heap[am]? = some (.cells #[.int .u32 t156, .int .i64 t157] 25 (0, 0))) := ⟨h2_⟩
          have n3_ : Aside0 (w82.heap[an]? = some (.cells #[.int .u32 t161, .int .i64 t162] 25 (0, 0))) := ⟨h3_⟩
          have n4_ : Aside0 (w82.heap[ab]? = some (.cells #[.int .u32 t169, .int .i64 t170] 25 (0, 0))) := ⟨h4_⟩
          have n5_ : Aside0 (Below w.heap.size w w82) := ⟨h5_⟩
          clear ae
          clear aa
          clear ac
          clear ad
          clear af
          clear HB
          clear h0_ h1_ h2_ h3_ h4_ h5_
          have ae := n0_
          have aa := n1_
          have ac := n2_
          have ad := n3_
          have af := n4_
          have HB := n5_
          clear n0_ n1_ n2_ n3_ n4_ n5_
          have hHeld : w82.cell? ⟨ab, 0, none⟩ = some (.int .u32 t169) ∧ w82.cell? ⟨ab, 1, none⟩ = some (.int .i64 t170) ∧ w82.cell? ⟨ag, 0, none⟩ = some (.int .u32 ak) ∧ w82.cell? ⟨ag, 1, none⟩ = some (.int .i64 al) := hS_
          refine norm_ (a' := ?_) ?_ ?_
          rotate_left
          ·simp only [putAll, Act.put, List.setIfInBounds_toArray, List.set_cons_zero, List.set_cons_succ]
           rfl
          refine pure_ (i := 17) (N := some 93) (v := ?_) (a' := ?_) #[true, true, true, true, true, true, true, true, true, true, true, true, true, true, true, true, true, true, false, false, false, false, false] rfl rfl (any_of HT_.out (by kernel_rfl)) (fun _ _ _ h => h) (Or.inl ⟨by rfl, ?_⟩) ?_ ?_
          rotate_left
          ·intro w'
           go_simp
           with_reducible rfl
          rotate_left
          ·simp only [Act.put, List.setIfInBounds_toArray, List.set_cons_zero, List.set_cons_succ, i64_w]
           rfl
          refine pure_ (i := 18) (N := some 94) (v := ?_) (a' := ?_) #[true, true, true, true, true, true, true, true, true, true, true, true, true, true, true, true, true, true, true, false, false, false, false] rfl rfl (any_of HT_.out (by kernel_rfl)) (fun _ _ _ h => h) (Or.inl ⟨by rfl, ?_⟩) ?_ ?_
          rotate_left
          ·intro w'
           go_simp
           with_reducible rfl
          rotate_left
          ·simp only [Act.put, List.setIfInBounds_toArray, List.set_cons_zero, List.set_cons_succ, i64_w]
           rfl
          refine pure_ (i := 19) (N := some 95) (v := ?_) (a' := ?_) #[true, true, true, true, true, true, true, true, true, true, true, true, true, true, true, true, true, true, true, true, false, false, false] rfl rfl (any_of HT_.out (by kernel_rfl)) (fun _ _ _ h => h) (Or.inl ⟨by rfl, ?_⟩) ?_ ?_
          rotate_left
          ·intro w'
           go_simp
           with_reducible rfl
          rotate_left
          ·simp only [Act.put, List.setIfInBounds_toArray, List.set_cons_zero, List.set_cons_succ, i64_w]
           rfl
          refine pure_ (i := 20) (N := some 96) (v := undef) (a' := ?_) #[true, true, true, true, true, true, true, true, true, true, true, true, true, true, true, true, true, true, true, true, true, false, false] rfl rfl (any_of HT_.out (by kernel_rfl)) (fun _ _ _ h => h) (Or.inr ⟨by rfl, rfl⟩) ?_ ?_
          rotate_left
          ·simp only [Act.put, List.setIfInBounds_toArray, List.set_cons_zero, List.set_cons_succ, i64_w]
           rfl
          refine pure_ (i := 21) (N := some 97) (v := ?_) (a' := ?_) #[true, true, true, true, true, true, true, true, true, true, true, true, true, true, true, true, true, true, true, true, true, true, false] rfl rfl (any_of HT_.out (by kernel_rfl)) (fun _ _ _ h => h) (Or.inl ⟨by rfl, ?_⟩) ?_ ?_
          rotate_left
          ·intro w'
           go_simp
           with_reducible rfl
          rotate_left
          ·simp only [Act.put, List.setIfInBounds_toArray, List.set_cons_zero, List.set_cons_succ, i64_w]
           rfl
          refine pure_ (i := 22) (N := some 6) (v := ?_) (a' := ?_) #[true, true, true, true, true, true, true, true, true, true, true, true, true, true, true, true, true, true, true, true, true, true, true] rfl rfl (any_of HT_.out (by kernel_rfl)) (fun _ _ _ h => h) (Or.inl ⟨by rfl, ?_⟩) ?_ ?_
          rotate_left
          ·intro w'
           go_simp
           with_reducible rfl
          rotate_left
          ·simp only [Act.put, List.setIfInBounds_toArray, List.set_cons_zero, List.set_cons_succ, i64_w]
           rfl
          refine done_ (done_of HT_.out (by kernel_rfl)) ?_
          try go_wp2
          go_ret
          exact ⟨by first | rfl | (simp [errW_none, errW_some] <;> rfl) | (simp [*, errW_none, errW_some] <;> rfl), by repeat (first | (with_reducible first | exact HB.out | apply below_alloc | apply pw_below_drewN | apply below_drew1 | refine below_set ?_ ah.out | refine below_set ?_ ai.out | refine below_set ?_ aj.out | refine below_set ?_ ao.out) | exact HB.out)⟩
        ·rw [if_neg c45] at H
         exact absurd H (by simp)
       ·rw [if_neg c43] at H
        have c43b0 : (t171 == (t166.length : Int)) = false := beq_eq_false_iff_ne.mpr c43
        have c43b1 : (t171 != (t166.length : Int)) = true := bne_iff_ne.mpr c43
        obtain rfl := Option.some.inj H
        have hnb83 := av.out
        have hnc83 := az.out
        have hnb84 := au.out
        have hnc84 := a4.out
        have hcz85_0 : wc.cell? ⟨ag, 0, none⟩ = some (.int .u32 ak) := (blk_cell aa.out 0).trans rfl
        have hcz85_1 : wc.cell? ⟨ag, 1, none⟩ = some (.int .i64 al) := (blk_cell aa.out 1).trans rfl
        have hfz85_0 := blk_frozen aa.out 0
        have hfz85_1 := blk_frozen aa.out 1
        try go_wp2_with (first | ((with_reducible refine gate_callee (f := 12) rfl ?_); refine goesL_ (some 50) rfl rfl Try.func12 (by kernel_rfl) rfl #[.slice A0 l0.length c0, .agg #[.int .u32 ak, .int .i64 al]] rfl (by (try simp only [List.map_toArray, List.map_cons, List.map_nil]); first | done | rfl) ?_; (with_reducible refine (wire_Prefix.calls bc _ _ l0 ak al t166 _ ?side1 ?side2 A39.out).mono ?_); (case side1 => repeat (first | exact (Kd.C_below ba.out HB.out) | (with_reducible refine Kd.C_alloc ?_ _) | (with_reducible refine Kd.C_drewN ?_ _) | (with_reducible refine Kd.C_drew ?_))); (case side2 => exact bf.out); rintro e w86 ⟨v167, rfl, ho0, hb⟩; refine ⟨_, rfl, ?_⟩; have ae := Aside0.mk (Kd.R_lower ho0 (below_size (by repeat (first | (with_reducible first | exact HB.out | apply below_alloc | apply pw_below_drewN | apply below_drew1 | refine below_set ?_ ah.out | refine below_set ?_ ai.out | refine below_set ?_ aj.out) | exact HB.out)))); replace aa := Aside0.mk (k763a.q aa.out hb rfl); replace ac := Aside0.mk (k763a.q ac.out hb rfl); replace ad := Aside0.mk (k763a.q ad.out hb rfl); replace HB := Aside0.mk (below_step (by repeat (first | (with_reducible first | exact HB.out | apply below_alloc | apply pw_below_drewN | apply below_drew1 | refine below_set ?_ ah.out | refine below_set ?_ ai.out | refine below_set ?_ aj.out) | exact HB.out)) hb); (try clear hb); (try clear bb); (try clear hk); (try clear hi); (try clear ho0); obtain ⟨Ao87, co87, eo87⟩ := Kd.R_slice ae.out; subst eo87) | ((with_reducible refine gate_callee (f := 10) rfl ?_); refine goesL_ (some 55) rfl rfl Try.func10 (by kernel_rfl) rfl #[.slice Ao87 t166.length co87, .int .i64 (l0.length : Int)] rfl (by (try simp only [List.map_toArray, List.map_cons, List.map_nil]); first | done | rfl) ?_; (with_reducible refine (wire_Take.calls bc _ _ t166 (l0.length : Int) t169 t170 t171 t172 _ ?side1 ?side2 A40.out).mono ?_); (case side1 => repeat (first | exact (Kd.R_reads' ae.out).2.2 | (with_reducible refine Kd.C_alloc ?_ _) | (with_reducible refine Kd.C_drewN ?_ _) | (with_reducible refine Kd.C_drew ?_))); (case side2 => exact (Kd.R_reads' ae.out).2.1); rintro e w88 ⟨rfl, hb⟩; refine ⟨_, rfl, ?_⟩; replace ae := Aside0.mk (Kd.R_below (by (with_reducible repeat (first | apply Kd.R_alloc | apply Kd.R_drewN | apply Kd.R_drew)); exact ae.out) hb); replace aa := Aside0.mk (k763a.q aa.out hb rfl); replace ac := Aside0.mk (k763a.q ac.out hb rfl); replace ad := Aside0.mk (k763a.q ad.out hb rfl); replace HB := Aside0.mk (below_step (by repeat (first | (with_reducible first | exact HB.out | apply below_alloc | apply pw_below_drewN | apply below_drew1 | refine below_set ?_ ah.out | refine below_set ?_ ai.out | refine below_set ?_ aj.out) | exact HB.out)) hb); (try clear hb); (try clear bb); (try clear hk); (try clear hi)) | ((with_reducible refine gate_dst (N := 14) rfl ?_); (try (refine gate_guard (by rfl) ?_; dsimp only)); refine box_event ?hg (N := 14) ?hd (cs := #[.int .u32 0, .int .i64 0]) (t := 25) ?hr ?_; (case hd => rfl); (case hg => rfl); (case hr => first | (go_simp; done) | (go_simp; rfl)); intro ab hg w89 hbox hb; have n0_ := Aside0.mk (Kd.R_below (by (with_reducible repeat (first | apply Kd.R_alloc | apply Kd.R_drewN | apply Kd.R_drew)); exact ae.out) hb); have n1_ := Aside0.mk (k763a.q aa.out hb rfl); have n2_ := Aside0.mk (k763a.q ac.out hb rfl); have n3_ := Aside0.mk (k763a.q ad.out hb rfl); have n4_ := Aside0.mk (below_step (by repeat (first | (with_reducible first | exact HB.out | apply below_alloc | apply pw_below_drewN | apply below_drew1 | refine below_set ?_ ah.out | refine below_set ?_ ai.out | refine below_set ?_ aj.out) | exact HB.out)) hb); have n5_ := Aside0.mk (hbox); have n6_ := Aside0.mk ((by rw [hg]; exact (below_size (by repeat (first | (with_reducible first | exact HB.out | apply below_alloc | apply pw_below_drewN | apply below_drew1 | refine below_set ?_ ah.out | refine below_set ?_ ai.out | refine below_set ?_ aj.out) | exact HB.out))) : w.heap.size ≤ ab)); have n7_ := Aside0.mk ((by rw [hg]; exact (below_size (by repeat (first | (with_reducible first | exact HB.out | apply below_alloc | apply pw_below_drewN | apply below_drew1 | refine below_set ?_ ah.out | refine below_set ?_ ai.out | refine below_set ?_ aj.out) | exact HB.out))) : w.heap.size ≤ ab)); have n8_ := Aside0.mk ((by rw [hg]; exact Nat.ne_of_lt (blk_lt (g := ag) (o := .cells #[.int .u32 ak, .int .i64 al] 25 (0, 0)) (by (with_reducible repeat (first | refine blk_drewN ?_ _ | refine blk_drew ?_ | refine blk_alloc ?_ _)); exact aa.out)) : ag ≠ ab)); have n9_ := Aside0.mk ((by rw [hg]; exact Nat.ne_of_gt (blk_lt (g := ag) (o := .cells #[.int .u32 ak, .int .i64 al] 25 (0, 0)) (by (with_reducible repeat (first | refine blk_drewN ?_ _ | refine blk_drew ?_ | refine blk_alloc ?_ _)); exact aa.out)) : ab ≠ ag)); have n10_ := Aside0.mk ((by rw [hg]; exact Nat.ne_of_lt (blk_lt (g := am) (o := .cells #[.int .u32 t156, .int .i64 t157] 25 (0, 0)) (by (with_reducible repeat (first | refine blk_drewN ?_ _ | refine blk_drew ?_ | refine blk_alloc ?_ _)); exact ac.out)) : am ≠ ab)); have n11_ := Aside0.mk ((by rw [hg]; exact Nat.ne_of_gt (blk_lt (g := am) (o := .cells #[.int .u32 t156, .int .i64 t157] 25 (0, 0)) (by (with_reducible repeat (first | refine blk_drewN ?_ _ | refine blk_drew ?_ | refine blk_alloc ?_ _)); exact ac.out)) : ab ≠ am)); have n12_ := Aside0.mk ((by rw [hg]; exact Nat.ne_of_lt (blk_lt (g := an) (o := .cells #[.int .u32 t161, .int .i64 t162] 25 (0, 0)) (by (with_reducible repeat (first | refine blk_drewN ?_ _ | refine blk_drew ?_ | refine blk_alloc ?_ _)); exact ad.out)) : an ≠ ab)); have n13_ := Aside0.mk ((by rw [hg]; exact Nat.ne_of_gt (blk_lt (g := an) (o := .cells #[.int .u32 t161, .int .i64 t162] 25 (0, 0)) (by (with_reducible repeat (first | refine blk_drewN ?_ _ | refine blk_drew ?_ | refine blk_alloc ?_ _)); exact ad.out)) : ab ≠ an)); clear ae; clear aa; clear ac; clear ad; clear HB; have ae := n0_; have aa := n1_; have ac := n2_; have ad := n3_; have HB := n4_; have af := n5_; have GW173 := n6_; have ao := n7_; have ap := n8_; have aw := n9_; have aq := n10_; have ax := n11_; have ar := n12_; have ay := n13_; clear n0_ n1_ n2_ n3_ n4_ n5_ n6_ n7_ n8_ n9_ n10_ n11_ n12_ n13_; clear hb hbox hg; have hnb90 := aw.out; have hnc90 := ap.out; have hnb91 := ax.out; have hnc91 := aq.out; have hnb92 := ay.out; have hnc92 := ar.out; have hcz93_0 : w89.cell? ⟨ab, 0, none⟩ = some (.int .u32 0) := (blk_cell af.out 0).trans rfl; have hcz93_1 : w89.cell? ⟨ab, 1, none⟩ = some (.int .i64 0) := (blk_cell af.out 1).trans rfl; have hfz93_0 := blk_frozen af.out 0; have hfz93_1 := blk_frozen af.out 1))
        have n0_ : Aside0 (Kd.R (Kd.int .u8) 5 ((w89.setCell ⟨ab, 0, none⟩ (.int .u32 t169)).setCell ⟨ab, 1, none⟩ (.int .i64 t170)) w.heap.size (fun _ => True) (.slice Ao87 t166.length co87) t166) := ⟨by (with_reducible repeat (first | apply Kd.R_alloc | apply Kd.R_drewN | apply Kd.R_drew)); exact Kd.R_mono (Kd.R_far (p := ⟨ab, 1, none⟩) (Kd.R_far (p := ⟨ab, 0, none⟩) (Kd.R_types ae.out af.out (by decide)) (fun _ hk => hk.2) (.int .u32 t169)) (fun _ hk => hk.2) (.int .i64 t170)) (fun _ hk => trivial)⟩
        have n1_ : Aside0 (((w89.setCell ⟨ab, 0, none⟩ (.int .u32 t169)).setCell ⟨ab, 1, none⟩ (.int .i64 t170)).heap[ag]? = some (.cells #[.int .u32 ak, .int .i64 al] 25 (0, 0))) := ⟨by (with_reducible repeat (first | refine blk_drewN ?_ _ | refine blk_drew ?_ | refine blk_alloc ?_ _)); refine blk_far ?_ ap.out _; (with_reducible repeat (first | refine blk_drewN ?_ _ | refine blk_drew ?_ | refine blk_alloc ?_ _)); refine blk_far ?_ ap.out _; (with_reducible repeat (first | refine blk_drewN ?_ _ | refine blk_drew ?_ | refine blk_alloc ?_ _)); exact aa.out⟩
        have n2_ : Aside0 (((w89.setCell ⟨ab, 0, none⟩ (.int .u32 t169)).setCell ⟨ab, 1, none⟩ (.int .i64 t170)).heap[am]? = some (.cells #[.int .u32 t156, .int .i64 t157] 25 (0, 0))) := ⟨by (with_reducible repeat (first | refine blk_drewN ?_ _ | refine blk_drew ?_ | refine blk_alloc ?_ _)); refine blk_far ?_ aq.out _; (with_reducible repeat (first | refine blk_drewN ?_ _ | refine blk_drew ?_ | refine blk_alloc ?_ _)); refine blk_far ?_ aq.out _; (with_reducible repeat (first | refine blk_drewN ?_ _ | refine blk_drew ?_ | refine blk_alloc ?_ _)); exact ac.out⟩
        have n3_ : Aside0 (((w89.setCell ⟨ab, 0, none⟩ (.int .u32 t169)).setCell ⟨ab, 1, none⟩ (.int .i64 t170)).heap[an]? = some (.cells #[.int .u32 t161, .int .i64 t162] 25 (0, 0))) := ⟨by (with_reducible repeat (first | refine blk_drewN ?_ _ | refine blk_drew ?_ | refine blk_alloc ?_ _)); refine blk_far ?_ ar.out _; (with_reducible repeat (first | refine blk_drewN ?_ _ | refine blk_drew ?_ | refine blk_alloc ?_ _)); refine blk_far ?_ ar.out _; (with_reducible repeat (first | refine blk_drewN ?_ _ | refine blk_drew ?_ | refine blk_alloc ?_ _)); exact ad.out⟩
        have n4_ : Aside0 (((w89.setCell ⟨ab, 0, none⟩ (.int .u32 t169)).setCell ⟨ab, 1, none⟩ (.int .i64 t170)).heap[ab]? = some (.cells #[.int .u32 t169, .int .i64 t170] 25 (0, 0))) := ⟨by (with_reducible repeat (first | refine blk_drewN ?_ _ | refine blk_drew ?_ | refine blk_alloc ?_ _)); refine blk_put (cs := #[.int .u32 t169, .int .i64 0]) ?_ 1 _ (by first | rfl | (simp; done) | (simp; omega)); (with_reducible repeat (first | refine blk_drewN ?_ _ | refine blk_drew ?_ | refine blk_alloc ?_ _)); refine blk_put (cs := #[.int .u32 0, .int .i64 0]) ?_ 0 _ (by first | rfl | (simp; done) | (simp; omega)); (with_reducible repeat (first | refine blk_drewN ?_ _ | refine blk_drew ?_ | refine blk_alloc ?_ _)); exact af.out⟩
        have n5_ : Aside0 (Below w.heap.size w ((w89.setCell ⟨ab, 0, none⟩ (.int .u32 t169)).setCell ⟨ab, 1, none⟩ (.int .i64 t170))) := ⟨by repeat (first | (with_reducible first | exact HB.out | apply below_alloc | apply pw_below_drewN | apply below_drew1 | refine below_set ?_ ah.out | refine below_set ?_ ai.out | refine below_set ?_ aj.out | refine below_set ?_ ao.out) | exact HB.out)⟩
        (try clear ae)
        (try clear aa)
        (try clear ac)
        (try clear ad)
        (try clear af)
        (try clear HB)
        generalize ((w89.setCell ⟨ab, 0, none⟩ (.int .u32 t169)).setCell ⟨ab, 1, none⟩ (.int .i64 t170)) = w94 at n0_ n1_ n2_ n3_ n4_ n5_ ⊢
        have ae := n0_
        have aa := n1_
        have ac := n2_
        have ad := n3_
        have af := n4_
        have HB := n5_
        clear n0_ n1_ n2_ n3_ n4_ n5_
        replace ae := Aside0.mk (Kd.R_drew ae.out)
        replace aa := Aside0.mk (blk_drew aa.out)
        replace ac := Aside0.mk (blk_drew ac.out)
        replace ad := Aside0.mk (blk_drew ad.out)
        replace af := Aside0.mk (blk_drew af.out)
        replace HB := Aside0.mk (below_drew1 HB.out)
        refine start_ (n := 23) (S := k763a.S0 ab ag (.int .u32 t169) (.int .i64 t170) (.int .u32 ak) (.int .i64 al)) (ds := []) #[false, false, false, false, false, false, false, false, false, false, false, false, false, false, false, false, false, false, false, false, false, false, false] (by kernel_rfl) rfl rfl (k763a.b2 af.out (k763a.b2e aa.out)) (fun hHeld => ?_); refine with_tabW whirligiglaw10_WirePrefixes.tab11 whirligiglaw10_WirePrefixes.bits11 (fun HT_ HW_ => ?_)
        generalize w94.drew = w95 at ae aa ac ad af HB hHeld ⊢
        refine take_ (i := 0) (N := some 76) (v := ?_) (a' := ?_) #[true, false, false, false, false, false, false, false, false, false, false, false, false, false, false, false, false, false, false, false, false, false, false] rfl rfl (take_ofW HT_.out HW_.out (by kernel_rfl)) (fun _ _ _ h => h) (Or.inl ⟨by rfl, ?_⟩) hHeld ?_ ?_
        rotate_left
        ·rintro w' ⟨s0, s1, s2, s3⟩
         go_simp
         with_reducible rfl
        rotate_left
        ·simp only [Act.put, List.setIfInBounds_toArray, List.set_cons_zero, List.set_cons_succ, i64_w]
         rfl
        refine take_ (i := 1) (N := some 77) (v := ?_) (a' := ?_) #[true, true, false, false, false, false, false, false, false, false, false, false, false, false, false, false, false, false, false, false, false, false, false] rfl rfl (take_ofW HT_.out HW_.out (by kernel_rfl)) (fun _ _ _ h => h) (Or.inl ⟨by rfl, ?_⟩) hHeld ?_ ?_
        rotate_left
        ·rintro w' ⟨s0, s1, s2, s3⟩
         go_simp
         with_reducible rfl
        rotate_left
        ·simp only [Act.put, List.setIfInBounds_toArray, List.set_cons_zero, List.set_cons_succ, i64_w]
         rfl
        refine pure_ (i := 2) (N := some 78) (v := ?_) (a' := ?_) #[true, true, true, false, false, false, false, false, false, false, false, false, false, false, false, false, false, false, false, false, false, false, false] rfl rfl (any_of HT_.out (by kernel_rfl)) (fun _ _ _ h => h) (Or.inl ⟨by rfl, ?_⟩) ?_ ?_
        rotate_left
        ·intro w'
         go_simp
         with_reducible rfl
        rotate_left
        ·simp only [Act.put, List.setIfInBounds_toArray, List.set_cons_zero, List.set_cons_succ, i64_w]
         rfl
        refine pure_ (i := 3) (N := some 79) (v := ?_) (a' := ?_) #[true, true, true, true, false, false, false, false, false, false, false, false, false, false, false, false, false, false, false, false, false, false, false] rfl rfl (any_of HT_.out (by kernel_rfl)) (fun _ _ _ h => h) (Or.inl ⟨by rfl, ?_⟩) ?_ ?_
        rotate_left
        ·intro w'
         go_simp
         with_reducible rfl
        rotate_left
        ·simp only [Act.put, List.setIfInBounds_toArray, List.set_cons_zero, List.set_cons_succ, i64_w]
         rfl
        refine pure_ (i := 4) (N := some 80) (v := ?_) (a' := ?_) #[true, true, true, true, true, false, false, false, false, false, false, false, false, false, false, false, false, false, false, false, false, false, false] rfl rfl (any_of HT_.out (by kernel_rfl)) (fun _ _ _ h => h) (Or.inl ⟨by rfl, ?_⟩) ?_ ?_
        rotate_left
        ·intro w'
         go_simp
         with_reducible rfl
        rotate_left
        ·simp only [Act.put, List.setIfInBounds_toArray, List.set_cons_zero, List.set_cons_succ, i64_w]
         rfl
        refine pure_ (i := 5) (N := some 81) (v := ?_) (a' := ?_) #[true, true, true, true, true, true, false, false, false, false, false, false, false, false, false, false, false, false, false, false, false, false, false] rfl rfl (any_of HT_.out (by kernel_rfl)) (fun _ _ _ h => h) (Or.inl ⟨by rfl, ?_⟩) ?_ ?_
        rotate_left
        ·intro w'
         go_simp
         with_reducible rfl
        rotate_left
        ·simp only [Act.put, List.setIfInBounds_toArray, List.set_cons_zero, List.set_cons_succ, i64_w]
         rfl
        refine pure_ (i := 6) (N := some 82) (v := ?_) (a' := ?_) #[true, true, true, true, true, true, true, false, false, false, false, false, false, false, false, false, false, false, false, false, false, false, false] rfl rfl (any_of HT_.out (by kernel_rfl)) (fun _ _ _ h => h) (Or.inl ⟨by rfl, ?_⟩) ?_ ?_
        rotate_left
        ·intro w'
         go_simp
         with_reducible rfl
        rotate_left
        ·simp only [Act.put, List.setIfInBounds_toArray, List.set_cons_zero, List.set_cons_succ, i64_w]
         rfl
        refine pure_ (i := 7) (N := some 83) (v := ?_) (a' := ?_) #[true, true, true, true, true, true, true, true, false, false, false, false, false, false, false, false, false, false, false, false, false, false, false] rfl rfl (any_of HT_.out (by kernel_rfl)) (fun _ _ _ h => h) (Or.inl ⟨by rfl, ?_⟩) ?_ ?_
        rotate_left
        ·intro w'
         go_simp
         with_reducible rfl
        rotate_left
        ·simp only [Act.put, List.setIfInBounds_toArray, List.set_cons_zero, List.set_cons_succ, i64_w]
         rfl
        refine pure_ (i := 8) (N := some 84) (v := ?_) (a' := ?_) #[true, true, true, true, true, true, true, true, true, false, false, false, false, false, false, false, false, false, false, false, false, false, false] rfl rfl (any_of HT_.out (by kernel_rfl)) (fun _ _ _ h => h) (Or.inl ⟨by rfl, ?_⟩) ?_ ?_
        rotate_left
        ·intro w'
         go_simp
         with_reducible rfl
        rotate_left
        ·simp only [Act.put, List.setIfInBounds_toArray, List.set_cons_zero, List.set_cons_succ, i64_w]
         rfl
        refine pure_ (i := 9) (N := some 85) (v := ?_) (a' := ?_) #[true, true, true, true, true, true, true, true, true, true, false, false, false, false, false, false, false, false, false, false, false, false, false] rfl rfl (any_of HT_.out (by kernel_rfl)) (fun _ _ _ h => h) (Or.inl ⟨by rfl, ?_⟩) ?_ ?_
        rotate_left
        ·intro w'
         go_simp
         with_reducible rfl
        rotate_left
        ·simp only [Act.put, List.setIfInBounds_toArray, List.set_cons_zero, List.set_cons_succ, i64_w]
         rfl
        refine pure_ (i := 10) (N := some 86) (v := undef) (a' := ?_) #[true, true, true, true, true, true, true, true, true, true, true, false, false, false, false, false, false, false, false, false, false, false, false] rfl rfl (any_of HT_.out (by kernel_rfl)) (fun _ _ _ h => h) (Or.inr ⟨by rfl, rfl⟩) ?_ ?_
        rotate_left
        ·simp only [Act.put, List.setIfInBounds_toArray, List.set_cons_zero, List.set_cons_succ, i64_w]
         rfl
        refine pure_ (i := 11) (N := some 87) (v := undef) (a' := ?_) #[true, true, true, true, true, true, true, true, true, true, true, true, false, false, false, false, false, false, false, false, false, false, false] rfl rfl (any_of HT_.out (by kernel_rfl)) (fun _ _ _ h => h) (Or.inr ⟨by rfl, rfl⟩) ?_ ?_
        rotate_left
        ·simp only [Act.put, List.setIfInBounds_toArray, List.set_cons_zero, List.set_cons_succ, i64_w]
         rfl
        refine pure_ (i := 12) (N := some 88) (v := undef) (a' := ?_) #[true, true, true, true, true, true, true, true, true, true, true, true, true, false, false, false, false, false, false, false, false, false, false] rfl rfl (any_of HT_.out (by kernel_rfl)) (fun _ _ _ h => h) (Or.inr ⟨by rfl, rfl⟩) ?_ ?_
        rotate_left
        ·simp only [Act.put, List.setIfInBounds_toArray, List.set_cons_zero, List.set_cons_succ, i64_w]
         rfl
        refine pure_ (i := 13) (N := some 89) (v := undef) (a' := ?_) #[true, true, true, true, true, true, true, true, true, true, true, true, true, true, false, false, false, false, false, false, false, false, false] rfl rfl (any_of HT_.out (by kernel_rfl)) (fun _ _ _ h => h) (Or.inr ⟨by rfl, rfl⟩) ?_ ?_
        rotate_left
        ·simp only [Act.put, List.setIfInBounds_toArray, List.set_cons_zero, List.set_cons_succ, i64_w]
         rfl
        refine pure_ (i := 14) (N := some 90) (v := undef) (a' := ?_) #[true, true, true, true, true, true, true, true, true, true, true, true, true, true, true, false, false, false, false, false, false, false, false] rfl rfl (any_of HT_.out (by kernel_rfl)) (fun _ _ _ h => h) (Or.inr ⟨by rfl, rfl⟩) ?_ ?_
        rotate_left
        ·simp only [Act.put, List.setIfInBounds_toArray, List.set_cons_zero, List.set_cons_succ, i64_w]
         rfl
        refine pure_ (i := 15) (N := some 91) (v := undef) (a' := ?_) #[true, true, true, true, true, true, true, true, true, true, true, true, true, true, true, true, false, false, false, false, false, false, false] rfl rfl (any_of HT_.out (by kernel_rfl)) (fun _ _ _ h => h) (Or.inr ⟨by rfl, rfl⟩) ?_ ?_
        rotate_left
        ·simp only [Act.put, List.setIfInBounds_toArray, List.set_cons_zero, List.set_cons_succ, i64_w]
         rfl
        refine pure_ (i := 16) (N := some 92) (v := undef) (a' := ?_) #[true, true, true, true, true, true, true, true, true, true, true, true, true, true, true, true, true, false, false, false, false, false, false] rfl rfl (any_of HT_.out (by kernel_rfl)) (fun _ _ _ h => h) (Or.inr ⟨by rfl, rfl⟩) ?_ ?_
        rotate_left
        ·simp only [Act.put, List.setIfInBounds_toArray, List.set_cons_zero, List.set_cons_succ, i64_w]
         rfl
        refine pure_ (i := 17) (N := some 93) (v := undef) (a' := ?_) #[true, true, true, true, true, true, true, true, true, true, true, true, true, true, true, true, true, true, false, false, false, false, false] rfl rfl (any_of HT_.out (by kernel_rfl)) (fun _ _ _ h => h) (Or.inr ⟨by rfl, rfl⟩) ?_ ?_
        rotate_left
        ·simp only [Act.put, List.setIfInBounds_toArray, List.set_cons_zero, List.set_cons_succ, i64_w]
         rfl
        refine pure_ (i := 18) (N := some 94) (v := ?_) (a' := ?_) #[true, true, true, true, true, true, true, true, true, true, true, true, true, true, true, true, true, true, true, false, false, false, false] rfl rfl (any_of HT_.out (by kernel_rfl)) (fun _ _ _ h => h) (Or.inl ⟨by rfl, ?_⟩) ?_ ?_
        rotate_left
        ·intro w'
         go_simp
         with_reducible rfl
        rotate_left
        ·simp only [Act.put, List.setIfInBounds_toArray, List.set_cons_zero, List.set_cons_succ, i64_w]
         rfl
        refine pure_ (i := 19) (N := some 95) (v := ?_) (a' := ?_) #[true, true, true, true, true, true, true, true, true, true, true, true, true, true, true, true, true, true, true, true, false, false, false] rfl rfl (any_of HT_.out (by kernel_rfl)) (fun _ _ _ h => h) (Or.inl ⟨by rfl, ?_⟩) ?_ ?_
        rotate_left
        ·intro w'
         go_simp
         with_reducible rfl
        rotate_left
        ·simp only [Act.put, List.setIfInBounds_toArray, List.set_cons_zero, List.set_cons_succ, i64_w]
         rfl
        refine pure_ (i := 20) (N := some 96) (v := undef) (a' := ?_) #[true, true, true, true, true, true, true, true, true, true, true, true, true, true, true, true, true, true, true, true, true, false, false] rfl rfl (any_of HT_.out (by kernel_rfl)) (fun _ _ _ h => h) (Or.inr ⟨by rfl, rfl⟩) ?_ ?_
        rotate_left
        ·simp only [Act.put, List.setIfInBounds_toArray, List.set_cons_zero, List.set_cons_succ, i64_w]
         rfl
        refine pure_ (i := 21) (N := some 97) (v := ?_) (a' := ?_) #[true, true, true, true, true, true, true, true, true, true, true, true, true, true, true, true, true, true, true, true, true, true, false] rfl rfl (any_of HT_.out (by kernel_rfl)) (fun _ _ _ h => h) (Or.inl ⟨by rfl, ?_⟩) ?_ ?_
        rotate_left
        ·intro w'
         go_simp
         with_reducible rfl
        rotate_left
        ·simp only [Act.put, List.setIfInBounds_toArray, List.set_cons_zero, List.set_cons_succ, i64_w]
         rfl
        refine pure_ (i := 22) (N := some 6) (v := ?_) (a' := ?_) #[true, true, true, true, true, true, true, true, true, true, true, true, true, true, true, true, true, true, true, true, true, true, true] rfl rfl (any_of HT_.out (by kernel_rfl)) (fun _ _ _ h => h) (Or.inl ⟨by rfl, ?_⟩) ?_ ?_
        rotate_left
        ·intro w'
         go_simp
         with_reducible rfl
        rotate_left
        ·simp only [Act.put, List.setIfInBounds_toArray, List.set_cons_zero, List.set_cons_succ, i64_w]
         rfl
        refine done_ (done_of HT_.out (by kernel_rfl)) ?_
        try go_wp2
        go_ret
        exact ⟨by first | rfl | (simp [errW_none, errW_some] <;> rfl) | (simp [*, errW_none, errW_some] <;> rfl), by repeat (first | (with_reducible first | exact HB.out | apply below_alloc | apply pw_below_drewN | apply below_drew1 | refine below_set ?_ ah.out | refine below_set ?_ ai.out | refine below_set ?_ aj.out | refine below_set ?_ ao.out) | exact HB.out)⟩
      ·rw [if_neg be] at H
       have c42b0 : (t169 == ak && (t170 == al)) = false := by simpa using be
       (try (have c42b1 : decide (t169 = ak && (t170 == al)) = false := by simpa using be))
       (try (have c42b2 : (t169 == ak && (t170 == al)) = false := by simpa using be))
       (try (have c42b3 : ¬ (t169 = ak && (t170 == al)) := by simpa using be))
       clear be
       obtain rfl := Option.some.inj H
       have hnb96 := av.out
       have hnc96 := az.out
       have hnb97 := au.out
       have hnc97 := a4.out
       have hcz98_0 : wc.cell? ⟨ag, 0, none⟩ = some (.int .u32 ak) := (blk_cell aa.out 0).trans rfl
       have hcz98_1 : wc.cell? ⟨ag, 1, none⟩ = some (.int .i64 al) := (blk_cell aa.out 1).trans rfl
       have hfz98_0 := blk_frozen aa.out 0
       have hfz98_1 := blk_frozen aa.out 1
       try go_wp2_with (first | ((with_reducible refine gate_callee (f := 12) rfl ?_); refine goesL_ (some 50) rfl rfl Try.func12 (by kernel_rfl) rfl #[.slice A0 l0.length c0, .agg #[.int .u32 ak, .int .i64 al]] rfl (by (try simp only [List.map_toArray, List.map_cons, List.map_nil]); first | done | rfl) ?_; (with_reducible refine (wire_Prefix.calls bc _ _ l0 ak al t166 _ ?side1 ?side2 A39.out).mono ?_); (case side1 => repeat (first | exact (Kd.C_below ba.out HB.out) | (with_reducible refine Kd.C_alloc ?_ _) | (with_reducible refine Kd.C_drewN ?_ _) | (with_reducible refine Kd.C_drew ?_))); (case side2 => exact bf.out); rintro e w99 ⟨v167, rfl, ho0, hb⟩; refine ⟨_, rfl, ?_⟩; have ae := Aside0.mk (Kd.R_lower ho0 (below_size (by repeat (first | (with_reducible first | exact HB.out | apply below_alloc | apply pw_below_drewN | apply below_drew1 | refine below_set ?_ ah.out | refine below_set ?_ ai.out | refine below_set ?_ aj.out) | exact HB.out)))); replace aa := Aside0.mk (k763a.q aa.out hb rfl); replace ac := Aside0.mk (k763a.q ac.out hb rfl); replace ad := Aside0.mk (k763a.q ad.out hb rfl); replace HB := Aside0.mk (below_step (by repeat (first | (with_reducible first | exact HB.out | apply below_alloc | apply pw_below_drewN | apply below_drew1 | refine below_set ?_ ah.out | refine below_set ?_ ai.out | refine below_set ?_ aj.out) | exact HB.out)) hb); (try clear hb); (try clear bb); (try clear hk); (try clear hi); (try clear ho0); obtain ⟨Ao100, co100, eo100⟩ := Kd.R_slice ae.out; subst eo100) | ((with_reducible refine gate_callee (f := 10) rfl ?_); refine goesL_ (some 55) rfl rfl Try.func10 (by kernel_rfl) rfl #[.slice Ao100 t166.length co100, .int .i64 (l0.length : Int)] rfl (by (try simp only [List.map_toArray, List.map_cons, List.map_nil]); first | done | rfl) ?_; (with_reducible refine (wire_Take.calls bc _ _ t166 (l0.length : Int) t169 t170 t171 t172 _ ?side1 ?side2 A40.out).mono ?_); (case side1 => repeat (first | exact (Kd.R_reads' ae.out).2.2 | (with_reducible refine Kd.C_alloc ?_ _) | (with_reducible refine Kd.C_drewN ?_ _) | (with_reducible refine Kd.C_drew ?_))); (case side2 => exact (Kd.R_reads' ae.out).2.1); rintro e w101 ⟨rfl, hb⟩; refine ⟨_, rfl, ?_⟩; replace ae := Aside0.mk (Kd.R_below (by (with_reducible repeat (first | apply Kd.R_alloc | apply Kd.R_drewN | apply Kd.R_drew)); exact ae.out) hb); replace aa := Aside0.mk (k763a.q aa.out hb rfl); replace ac := Aside0.mk (k763a.q ac.out hb rfl); replace ad := Aside0.mk (k763a.q ad.out hb rfl); replace HB := Aside0.mk (below_step (by repeat (first | (with_reducible first | exact HB.out | apply below_alloc | apply pw_below_drewN | apply below_drew1 | refine below_set ?_ ah.out | refine below_set ?_ ai.out | refine below_set ?_ aj.out) | exact HB.out)) hb); (try clear hb); (try clear bb); (try clear hk); (try clear hi)) | ((with_reducible refine gate_dst (N := 14) rfl ?_); (try (refine gate_guard (by rfl) ?_; dsimp only)); refine box_event ?hg (N := 14) ?hd (cs := #[.int .u32 0, .int .i64 0]) (t := 25) ?hr ?_; (case hd => rfl); (case hg => rfl); (case hr => first | (go_simp; done) | (go_simp; rfl)); intro ab hg w102 hbox hb; have n0_ := Aside0.mk (Kd.R_below (by (with_reducible repeat (first | apply Kd.R_alloc | apply Kd.R_drewN | apply Kd.R_drew)); exact ae.out) hb); have n1_ := Aside0.mk (k763a.q aa.out hb rfl); have n2_ := Aside0.mk (k763a.q ac.out hb rfl); have n3_ := Aside0.mk (k763a.q ad.out hb rfl); have n4_ := Aside0.mk (below_step (by repeat (first | (with_reducible first | exact HB.out | apply below_alloc | apply pw_below_drewN | apply below_drew1 | refine below_set ?_ ah.out | refine below_set ?_ ai.out | refine below_set ?_ aj.out) | exact HB.out)) hb); have n5_ := Aside0.mk (hbox); have n6_ := Aside0.mk ((by rw [hg]; exact (below_size (by repeat (first | (with_reducible first | exact HB.out | apply below_alloc | apply pw_below_drewN | apply below_drew1 | refine below_set ?_ ah.out | refine below_set ?_ ai.out | refine below_set ?_ aj.out) | exact HB.out))) : w.heap.size ≤ ab)); have n7_ := Aside0.mk ((by rw [hg]; exact (below_size (by repeat (first | (with_reducible first | exact HB.out | apply below_alloc | apply pw_below_drewN | apply below_drew1 | refine below_set ?_ ah.out | refine below_set ?_ ai.out | refine below_set ?_ aj.out) | exact HB.out))) : w.heap.size ≤ ab)); have n8_ := Aside0.mk ((by rw [hg]; exact Nat.ne_of_lt (blk_lt (g := ag) (o := .cells #[.int .u32 ak, .int .i64 al] 25 (0, 0)) (by (with_reducible repeat (first | refine blk_drewN ?_ _ | refine blk_drew ?_ | refine blk_alloc ?_ _)); exact aa.out)) : ag ≠ ab)); have n9_ := Aside0.mk ((by rw [hg]; exact Nat.ne_of_gt (blk_lt (g := ag) (o := .cells #[.int .u32 ak, .int .i64 al] 25 (0, 0)) (by (with_reducible repeat (first | refine blk_drewN ?_ _ | refine blk_drew ?_ | refine blk_alloc ?_ _)); exact aa.out)) : ab ≠ ag)); have n10_ := Aside0.mk ((by rw [hg]; exact Nat.ne_of_lt (blk_lt (g := am) (o := .cells #[.int .u32 t156, .int .i64 t157] 25 (0, 0)) (by (with_reducible repeat (first | refine blk_drewN ?_ _ | refine blk_drew ?_ | refine blk_alloc ?_ _)); exact ac.out)) : am ≠ ab)); have n11_ := Aside0.mk ((by rw [hg]; exact Nat.ne_of_gt (blk_lt (g := am) (o := .cells #[.int .u32 t156, .int .i64 t157] 25 (0, 0)) (by (with_reducible repeat (first | refine blk_drewN ?_ _ | refine blk_drew ?_ | refine blk_alloc ?_ _)); exact ac.out)) : ab ≠ am)); have n12_ := Aside0.mk ((by rw [hg]; exact Nat.ne_of_lt (blk_lt (g := an) (o := .cells #[.int .u32 t161, .int .i64 t162] 25 (0, 0)) (by (with_reducible repeat (first | refine blk_drewN ?_ _ | refine blk_drew ?_ | refine blk_alloc ?_ _)); exact ad.out)) : an ≠ ab)); have n13_ := Aside0.mk ((by rw [hg]; exact Nat.ne_of_gt (blk_lt (g := an) (o := .cells #[.int .u32 t161, .int .i64 t162] 25 (0, 0)) (by (with_reducible repeat (first | refine blk_drewN ?_ _ | refine blk_drew ?_ | refine blk_alloc ?_ _)); exact ad.out)) : ab ≠ an)); clear ae; clear aa; clear ac; clear ad; clear HB; have ae := n0_; have aa := n1_; have ac := n2_; have ad := n3_; have HB := n4_; have af := n5_; have GW173 := n6_; have ao := n7_; have ap := n8_; have aw := n9_; have aq := n10_; have ax := n11_; have ar := n12_; have ay := n13_; clear n0_ n1_ n2_ n3_ n4_ n5_ n6_ n7_ n8_ n9_ n10_ n11_ n12_ n13_; clear hb hbox hg; have hnb103 := aw.out; have hnc103 := ap.out; have hnb104 := ax.out; have hnc104 := aq.out; have hnb105 := ay.out; have hnc105 := ar.out; have hcz106_0 : w102.cell? ⟨ab, 0, none⟩ = some (.int .u32 0) := (blk_cell af.out 0).trans rfl; have hcz106_1 : w102.cell? ⟨ab, 1, none⟩ = some (.int .i64 0) := (blk_cell af.out 1).trans rfl; have hfz106_0 := blk_frozen af.out 0; have hfz106_1 := blk_frozen af.out 1))
       have n0_ : Aside0 (Kd.R (Kd.int .u8) 5 ((w102.setCell ⟨ab, 0, none⟩ (.int .u32 t169)).setCell ⟨ab, 1, none⟩ (.int .i64 t170)) w.heap.size (fun _ => True) (.slice Ao100 t166.length co100) t166) := ⟨by (with_reducible repeat (first | apply Kd.R_alloc | apply Kd.R_drewN | apply Kd.R_drew)); exact Kd.R_mono (Kd.R_far (p := ⟨ab, 1, none⟩) (Kd.R_far (p := ⟨ab, 0, none⟩) (Kd.R_types ae.out af.out (by decide)) (fun _ hk => hk.2) (.int .u32 t169)) (fun _ hk => hk.2) (.int .i64 t170)) (fun _ hk => trivial)⟩
       have n1_ : Aside0 (((w102.setCell ⟨ab, 0, none⟩ (.int .u32 t169)).setCell ⟨ab, 1, none⟩ (.int .i64 t170)).heap[ag]? = some (.cells #[.int .u32 ak, .int .i64 al] 25 (0, 0))) := ⟨by (with_reducible repeat (first | refine blk_drewN ?_ _ | refine blk_drew ?_ | refine blk_alloc ?_ _)); refine blk_far ?_ ap.out _; (with_reducible repeat (first | refine blk_drewN ?_ _ | refine blk_drew ?_ | refine blk_alloc ?_ _)); refine blk_far ?_ ap.out _; (with_reducible repeat (first | refine blk_drewN ?_ _ | refine blk_drew ?_ | refine blk_alloc ?_ _)); exact aa.out⟩
       have n2_ : Aside0 (((w102.setCell ⟨ab, 0, none⟩ (.int .u32 t169)).setCell ⟨ab, 1, none⟩ (.int .i64 t170)).heap[am]? = some (.cells #[.int .u32 t156, .int .i64 t157] 25 (0, 0))) := ⟨by (with_reducible repeat (first | refine blk_drewN ?_ _ | refine blk_drew ?_ | refine blk_alloc ?_ _)); refine blk_far ?_ aq.out _; (with_reducible repeat (first | refine blk_drewN ?_ _ | refine blk_drew ?_ | refine blk_alloc ?_ _)); refine blk_far ?_ aq.out _; (with_reducible repeat (first | refine blk_drewN ?_ _ | refine blk_drew ?_ | refine blk_alloc ?_ _)); exact ac.out⟩
       have n3_ : Aside0 (((w102.setCell ⟨ab, 0, none⟩ (.int .u32 t169)).setCell ⟨ab, 1, none⟩ (.int .i64 t170)).heap[an]? = some (.cells #[.int .u32 t161, .int .i64 t162] 25 (0, 0))) := ⟨by (with_reducible repeat (first | refine blk_drewN ?_ _ | refine blk_drew ?_ | refine blk_alloc ?_ _)); refine blk_far ?_ ar.out _; (with_reducible repeat (first | refine blk_drewN ?_ _ | refine blk_drew ?_ | refine blk_alloc ?_ _)); refine blk_far ?_ ar.out _; (with_reducible repeat (first | refine blk_drewN ?_ _ | refine blk_drew ?_ | refine blk_alloc ?_ _)); exact ad.out⟩
       have n4_ : Aside0 (((w102.setCell ⟨ab, 0, none⟩ (.int .u32 t169)).setCell ⟨ab, 1, none⟩ (.int .i64 t170)).heap[ab]? = some (.cells #[.int .u32 t169, .int .i64 t170] 25 (0, 0))) := ⟨by (with_reducible repeat (first | refine blk_drewN ?_ _ | refine blk_drew ?_ | refine blk_alloc ?_ _)); refine blk_put (cs := #[.int .u32 t169, .int .i64 0]) ?_ 1 _ (by first | rfl | (simp; done) | (simp; omega)); (with_reducible repeat (first | refine blk_drewN ?_ _ | refine blk_drew ?_ | refine blk_alloc ?_ _)); refine blk_put (cs := #[.int .u32 0, .int .i64 0]) ?_ 0 _ (by first | rfl | (simp; done) | (simp; omega)); (with_reducible repeat (first | refine blk_drewN ?_ _ | refine blk_drew ?_ | refine blk_alloc ?_ _)); exact af.out⟩
       have n5_ : Aside0 (Below w.heap.size w ((w102.setCell ⟨ab, 0, none⟩ (.int .u32 t169)).setCell ⟨ab, 1, none⟩ (.int .i64 t170))) := ⟨by repeat (first | (with_reducible first | exact HB.out | apply below_alloc | apply pw_below_drewN | apply below_drew1 | refine below_set ?_ ah.out | refine below_set ?_ ai.out | refine below_set ?_ aj.out | refine below_set ?_ ao.out) | exact HB.out)⟩
       (try clear ae)
       (try clear aa)
       (try clear ac)
       (try clear ad)
       (try clear af)
       (try clear HB)
       generalize ((w102.setCell ⟨ab, 0, none⟩ (.int .u32 t169)).setCell ⟨ab, 1, none⟩ (.int .i64 t170)) = w107 at n0_ n1_ n2_ n3_ n4_ n5_ ⊢
       have ae := n0_
       have aa := n1_
       have ac := n2_
       have ad := n3_
       have af := n4_
       have HB := n5_
       clear n0_ n1_ n2_ n3_ n4_ n5_
       replace ae := Aside0.mk (Kd.R_drew ae.out)
       replace aa := Aside0.mk (blk_drew aa.out)
       replace ac := Aside0.mk (blk_drew ac.out)
       replace ad := Aside0.mk (blk_drew ad.out)
       replace af := Aside0.mk (blk_drew af.out)
       replace HB := Aside0.mk (below_drew1 HB.out)
       refine start_ (n := 23) (S := k763a.S0 ab ag (.int .u32 t169) (.int .i64 t170) (.int .u32 ak) (.int .i64 al)) (ds := []) #[false, false, false, false, false, false, false, false, false, false, false, false, false, false, false, false, false, false, false, false, false, false, false] (by kernel_rfl) rfl rfl (k763a.b2 af.out (k763a.b2e aa.out)) (fun hHeld => ?_); refine with_tabW whirligiglaw10_WirePrefixes.tab11 whirligiglaw10_WirePrefixes.bits11 (fun HT_ HW_ => ?_)
       generalize w107.drew = w108 at ae aa ac ad af HB hHeld ⊢
       refine take_ (i := 0) (N := some 76) (v := ?_) (a' := ?_) #[true, false, false, false, false, false, false, false, false, false, false, false, false, false, false, false, false, false, false, false, false, false, false] rfl rfl (take_ofW HT_.out HW_.out (by kernel_rfl)) (fun _ _ _ h => h) (Or.inl ⟨by rfl, ?_⟩) hHeld ?_ ?_
       rotate_left
       ·rintro w' ⟨s0, s1, s2, s3⟩
        go_simp
        with_reducible rfl
       rotate_left
       ·simp only [Act.put, List.setIfInBounds_toArray, List.set_cons_zero, List.set_cons_succ, i64_w]
        rfl
       refine take_ (i := 1) (N := some 77) (v := ?_) (a' := ?_) #[true, true, false, false, false, false, false, false, false, false, false, false, false, false, false, false, false, false, false, false, false, false, false] rfl rfl (take_ofW HT_.out HW_.out (by kernel_rfl)) (fun _ _ _ h => h) (Or.inl ⟨by rfl, ?_⟩) hHeld ?_ ?_
       rotate_left
       ·rintro w' ⟨s0, s1, s2, s3⟩
        go_simp
        with_reducible rfl
       rotate_left
       ·simp only [Act.put, List.setIfInBounds_toArray, List.set_cons_zero, List.set_cons_succ, i64_w]
        rfl
       refine pure_ (i := 2) (N := some 78) (v := ?_) (a' := ?_) #[true, true, true, false, false, false, false, false, false, false, false, false, false, false, false, false, false, false, false, false, false, false, false] rfl rfl (any_of HT_.out (by kernel_rfl)) (fun _ _ _ h => h) (Or.inl ⟨by rfl, ?_⟩) ?_ ?_
       rotate_left
       ·intro w'
        go_simp
        with_reducible rfl
       rotate_left
       ·simp only [Act.put, List.setIfInBounds_toArray, List.set_cons_zero, List.set_cons_succ, i64_w]
        rfl
       refine pure_ (i := 3) (N := some 79) (v := ?_) (a' := ?_) #[true, true, true, true, false, false, false, false, false, false, false, false, false, false, false, false, false, false, false, false, false, false, false] rfl rfl (any_of HT_.out (by kernel_rfl)) (fun _ _ _ h => h) (Or.inl ⟨by rfl, ?_⟩) ?_ ?_
       rotate_left
       ·intro w'
        go_simp
        with_reducible rfl
       rotate_left
       ·simp only [Act.put, List.setIfInBounds_toArray, List.set_cons_zero, List.set_cons_succ, i64_w]
        rfl
       refine pure_ (i := 4) (N := some 80) (v := undef) (a' := ?_) #[true, true, true, true, true, false, false, false, false, false, false, false, false, false, false, false, false, false, false, false, false, false, false] rfl rfl (any_of HT_.out (by kernel_rfl)) (fun _ _ _ h => h) (Or.inr ⟨by rfl, rfl⟩) ?_ ?_
       rotate_left
       ·simp only [Act.put, List.setIfInBounds_toArray, List.set_cons_zero, List.set_cons_succ, i64_w]
        rfl
       refine pure_ (i := 5) (N := some 81) (v := undef) (a' := ?_) #[true, true, true, true, true, true, false, false, false, false, false, false, false, false, false, false, false, false, false, false, false, false, false] rfl rfl (any_of HT_.out (by kernel_rfl)) (fun _ _ _ h => h) (Or.inr ⟨by rfl, rfl⟩) ?_ ?_
       rotate_left
       ·simp only [Act.put, List.setIfInBounds_toArray, List.set_cons_zero, List.set_cons_succ, i64_w]
        rfl
       refine pure_ (i := 6) (N := some 82) (v := undef) (a' := ?_) #[true, true, true, true, true, true, true, false, false, false, false, false, false, false, false, false, false, false, false, false, false, false, false] rfl rfl (any_of HT_.out (by kernel_rfl)) (fun _ _ _ h => h) (Or.inr ⟨by rfl, rfl⟩) ?_ ?_
       rotate_left
       ·simp only [Act.put, List.setIfInBounds_toArray, List.set_cons_zero, List.set_cons_succ, i64_w]
        rfl
       refine pure_ (i := 7) (N := some 83) (v := undef) (a' := ?_) #[true, true, true, true, true, true, true, true, false, false, false, false, false, false, false, false, false, false, false, false, false, false, false] rfl rfl (any_of HT_.out (by kernel_rfl)) (fun _ _ _ h => h) (Or.inr ⟨by rfl, rfl⟩) ?_ ?_
       rotate_left
       ·simp only [Act.put, List.setIfInBounds_toArray, List.set_cons_zero, List.set_cons_succ, i64_w]
        rfl
       refine pure_ (i := 8) (N := some 84) (v := ?_) (a' := ?_) #[true, true, true, true, true, true, true, true, true, false, false, false, false, false, false, false, false, false, false, false, false, false, false] rfl rfl (any_of HT_.out (by kernel_rfl)) (fun _ _ _ h => h) (Or.inl ⟨by rfl, ?_⟩) ?_ ?_
       rotate_left
       ·intro w'
        go_simp
        with_reducible rfl
       rotate_left
       ·simp only [Act.put, List.setIfInBounds_toArray, List.set_cons_zero, List.set_cons_succ, i64_w]
        rfl
       refine pure_ (i := 9) (N := some 85) (v := ?_) (a' := ?_) #[true, true, true, true, true, true, true, true, true, true, false, false, false, false, false, false, false, false, false, false, false, false, false] rfl rfl (any_of HT_.out (by kernel_rfl)) (fun _ _ _ h => h) (Or.inl ⟨by rfl, ?_⟩) ?_ ?_
       rotate_left
       ·intro w'
        go_simp
        with_reducible rfl
       rotate_left
       ·simp only [Act.put, List.setIfInBounds_toArray, List.set_cons_zero, List.set_cons_succ, i64_w]
        rfl
       refine pure_ (i := 10) (N := some 86) (v := undef) (a' := ?_) #[true, true, true, true, true, true, true, true, true, true, true, false, false, false, false, false, false, false, false, false, false, false, false] rfl rfl (any_of HT_.out (by kernel_rfl)) (fun _ _ _ h => h) (Or.inr ⟨by rfl, rfl⟩) ?_ ?_
       rotate_left
       ·simp only [Act.put, List.setIfInBounds_toArray, List.set_cons_zero, List.set_cons_succ, i64_w]
        rfl
       refine pure_ (i := 11) (N := some 87) (v := undef) (a' := ?_) #[true, true, true, true, true, true, true, true, true, true, true, true, false, false, false, false, false, false, false, false, false, false, false] rfl rfl (any_of HT_.out (by kernel_rfl)) (fun _ _ _ h => h) (Or.inr ⟨by rfl, rfl⟩) ?_ ?_
       rotate_left
       ·simp only [Act.put, List.setIfInBounds_toArray, List.set_cons_zero, List.set_cons_succ, i64_w]
        rfl
       refine pure_ (i := 12) (N := some 88) (v := undef) (a' := ?_) #[true, true, true, true, true, true, true, true, true, true, true, true, true, false, false, false, false, false, false, false, false, false, false] rfl rfl (any_of HT_.out (by kernel_rfl)) (fun _ _ _ h => h) (Or.inr ⟨by rfl, rfl⟩) ?_ ?_
       rotate_left
       ·simp only [Act.put, List.setIfInBounds_toArray, List.set_cons_zero, List.set_cons_succ, i64_w]
        rfl
       refine pure_ (i := 13) (N := some 89) (v := undef) (a' := ?_) #[true, true, true, true, true, true, true, true, true, true, true, true, true, true, false, false, false, false, false, false, false, false, false] rfl rfl (any_of HT_.out (by kernel_rfl)) (fun _ _ _ h => h) (Or.inr ⟨by rfl, rfl⟩) ?_ ?_
       rotate_left
       ·simp only [Act.put, List.setIfInBounds_toArray, List.set_cons_zero, List.set_cons_succ, i64_w]
        rfl
       refine pure_ (i := 14) (N := some 90) (v := undef) (a' := ?_) #[true, true, true, true, true, true, true, true, true, true, true, true, true, true, true, false, false, false, false, false, false, false, false] rfl rfl (any_of HT_.out (by kernel_rfl)) (fun _ _ _ h => h) (Or.inr ⟨by rfl, rfl⟩) ?_ ?_
       rotate_left
       ·simp only [Act.put, List.setIfInBounds_toArray, List.set_cons_zero, List.set_cons_succ, i64_w]
        rfl
       refine pure_ (i := 15) (N := some 91) (v := undef) (a' := ?_) #[true, true, true, true, true, true, true, true, true, true, true, true, true, true, true, true, false, false, false, false, false, false, false] rfl rfl (any_of HT_.out (by kernel_rfl)) (fun _ _ _ h => h) (Or.inr ⟨by rfl, rfl⟩) ?_ ?_
       rotate_left
       ·simp only [Act.put, List.setIfInBounds_toArray, List.set_cons_zero, List.set_cons_succ, i64_w]
        rfl
       refine pure_ (i := 16) (N := some 92) (v := undef) (a' := ?_) #[true, true, true, true, true, true, true, true, true, true, true, true, true, true, true, true, true, false, false, false, false, false, false] rfl rfl (any_of HT_.out (by kernel_rfl)) (fun _ _ _ h => h) (Or.inr ⟨by rfl, rfl⟩) ?_ ?_
       rotate_left
       ·simp only [Act.put, List.setIfInBounds_toArray, List.set_cons_zero, List.set_cons_succ, i64_w]
        rfl
       refine pure_ (i := 17) (N := some 93) (v := undef) (a' := ?_) #[true, true, true, true, true, true, true, true, true, true, true, true, true, true, true, true, true, true, false, false, false, false, false] rfl rfl (any_of HT_.out (by kernel_rfl)) (fun _ _ _ h => h) (Or.inr ⟨by rfl, rfl⟩) ?_ ?_
       rotate_left
       ·simp only [Act.put, List.setIfInBounds_toArray, List.set_cons_zero, List.set_cons_succ, i64_w]
        rfl
       refine pure_ (i := 18) (N := some 94) (v := ?_) (a' := ?_) #[true, true, true, true, true, true, true, true, true, true, true, true, true, true, true, true, true, true, true, false, false, false, false] rfl rfl (any_of HT_.out (by kernel_rfl)) (fun _ _ _ h => h) (Or.inl ⟨by rfl, ?_⟩) ?_ ?_
       rotate_left
       ·intro w'
        go_simp
        with_reducible rfl
       rotate_left
       ·simp only [Act.put, List.setIfInBounds_toArray, List.set_cons_zero, List.set_cons_succ, i64_w]
        rfl
       refine pure_ (i := 19) (N := some 95) (v := ?_) (a' := ?_) #[true, true, true, true, true, true, true, true, true, true, true, true, true, true, true, true, true, true, true, true, false, false, false] rfl rfl (any_of HT_.out (by kernel_rfl)) (fun _ _ _ h => h) (Or.inl ⟨by rfl, ?_⟩) ?_ ?_
       rotate_left
       ·intro w'
        go_simp
        with_reducible rfl
       rotate_left
       ·simp only [Act.put, List.setIfInBounds_toArray, List.set_cons_zero, List.set_cons_succ, i64_w]
        rfl
       refine pure_ (i := 20) (N := some 96) (v := undef) (a' := ?_) #[true, true, true, true, true, true, true, true, true, true, true, true, true, true, true, true, true, true, true, true, true, false, false] rfl rfl (any_of HT_.out (by kernel_rfl)) (fun _ _ _ h => h) (Or.inr ⟨by rfl, rfl⟩) ?_ ?_
       rotate_left
       ·simp only [Act.put, List.setIfInBounds_toArray, List.set_cons_zero, List.set_cons_succ, i64_w]
        rfl
       refine pure_ (i := 21) (N := some 97) (v := ?_) (a' := ?_) #[true, true, true, true, true, true, true, true, true, true, true, true, true, true, true, true, true, true, true, true, true, true, false] rfl rfl (any_of HT_.out (by kernel_rfl)) (fun _ _ _ h => h) (Or.inl ⟨by rfl, ?_⟩) ?_ ?_
       rotate_left
       ·intro w'
        go_simp
        with_reducible rfl
       rotate_left
       ·simp only [Act.put, List.setIfInBounds_toArray, List.set_cons_zero, List.set_cons_succ, i64_w]
        rfl
       refine pure_ (i := 22) (N := some 6) (v := ?_) (a' := ?_) #[true, true, true, true, true, true, true, true, true, true, true, true, true, true, true, true, true, true, true, true, true, true, true] rfl rfl (any_of HT_.out (by kernel_rfl)) (fun _ _ _ h => h) (Or.inl ⟨by rfl, ?_⟩) ?_ ?_
       rotate_left
       ·intro w'
        go_simp
        with_reducible rfl
       rotate_left
       ·simp only [Act.put, List.setIfInBounds_toArray, List.set_cons_zero, List.set_cons_succ, i64_w]
        rfl
       refine done_ (done_of HT_.out (by kernel_rfl)) ?_
       try go_wp2
       go_ret
       exact ⟨by first | rfl | (simp [errW_none, errW_some] <;> rfl) | (simp [*, errW_none, errW_some] <;> rfl), by repeat (first | (with_reducible first | exact HB.out | apply below_alloc | apply pw_below_drewN | apply below_drew1 | refine below_set ?_ ah.out | refine below_set ?_ ai.out | refine below_set ?_ aj.out | refine below_set ?_ ao.out) | exact HB.out)⟩
     ·rw [if_neg c41] at H
      have c41b0 : (t172 == 0) = false := beq_eq_false_iff_ne.mpr c41
      have c41b1 : (t172 != 0) = true := bne_iff_ne.mpr c41
      by_cases bd : (t166.length : Int) = (l0.length : Int)
      ·rw [if_pos bd] at H
       have c109b0 : ((t166.length : Int) == (l0.length : Int)) = true := beq_iff_eq.mpr bd
       have c109b1 : ((t166.length : Int) != (l0.length : Int)) = false := bne_eq_false_iff_eq.mpr bd
       have c109b2 : (t166.length == l0.length) = true := by first | simpa using bd | (simp at bd ⊢; omega)
       clear bd
       by_cases c110 : (strOfNums t166).toList = (strOfNums l0).toList
       ·rw [if_pos c110] at H
        have c110b0 : ((strOfNums t166).toList == (strOfNums l0).toList) = true := beq_iff_eq.mpr c110
        have c110b1 : ((strOfNums t166).toList != (strOfNums l0).toList) = false := bne_eq_false_iff_eq.mpr c110
        clear c110
        replace H := Option.bind_eq_some_iff.mp H
        obtain ⟨t176, A1110, H⟩ := H
        replace H : (some t176) = some r := H
        have A111 := Aside0.mk A1110
        clear A1110
        obtain rfl := Option.some.inj H
        have hnb112 := av.out
        have hnc112 := az.out
        have hnb113 := au.out
        have hnc113 := a4.out
        have hcz114_0 : wc.cell? ⟨ag, 0, none⟩ = some (.int .u32 ak) := (blk_cell aa.out 0).trans rfl
        have hcz114_1 : wc.cell? ⟨ag, 1, none⟩ = some (.int .i64 al) := (blk_cell aa.out 1).trans rfl
        have hfz114_0 := blk_frozen aa.out 0
        have hfz114_1 := blk_frozen aa.out 1
        go_wp2_with (first | ((with_reducible refine gate_callee (f := 12) rfl ?_); refine goesL_ (some 50) rfl rfl Try.func12 (by kernel_rfl) rfl #[.slice A0 l0.length c0, .agg #[.int .u32 ak, .int .i64 al]] rfl (by (try simp only [List.map_toArray, List.map_cons, List.map_nil]); first | done | rfl) ?_; (with_reducible refine (wire_Prefix.calls bc _ _ l0 ak al t166 _ ?side1 ?side2 A39.out).mono ?_); (case side1 => repeat (first | exact (Kd.C_below ba.out HB.out) | (with_reducible refine Kd.C_alloc ?_ _) | (with_reducible refine Kd.C_drewN ?_ _) | (with_reducible refine Kd.C_drew ?_))); (case side2 => exact bf.out); rintro e w115 ⟨v167, rfl, ho0, hb⟩; refine ⟨_, rfl, ?_⟩; have ae := Aside0.mk (Kd.R_lower ho0 (below_size (by repeat (first | (with_reducible first | exact HB.out | apply below_alloc | apply pw_below_drewN | apply below_drew1 | refine below_set ?_ ah.out | refine below_set ?_ ai.out | refine below_set ?_ aj.out) | exact HB.out)))); replace aa := Aside0.mk (k763a.q aa.out hb rfl); replace ac := Aside0.mk (k763a.q ac.out hb rfl); replace ad := Aside0.mk (k763a.q ad.out hb rfl); replace HB := Aside0.mk (below_step (by repeat (first | (with_reducible first | exact HB.out | apply below_alloc | apply pw_below_drewN | apply below_drew1 | refine below_set ?_ ah.out | refine below_set ?_ ai.out | refine below_set ?_ aj.out) | exact HB.out)) hb); (try clear hb); (try clear bb); (try clear hk); (try clear hi); (try clear ho0); obtain ⟨Ao116, co116, eo116⟩ := Kd.R_slice ae.out; subst eo116) | ((with_reducible refine gate_callee (f := 10) rfl ?_); refine goesL_ (some 55) rfl rfl Try.func10 (by kernel_rfl) rfl #[.slice Ao116 t166.length co116, .int .i64 (l0.length : Int)] rfl (by (try simp only [List.map_toArray, List.map_cons, List.map_nil]); first | done | rfl) ?_; (with_reducible refine (wire_Take.calls bc _ _ t166 (l0.length : Int) t169 t170 t171 t172 _ ?side1 ?side2 A40.out).mono ?_); (case side1 => repeat (first | exact (Kd.R_reads' ae.out).2.2 | (with_reducible refine Kd.C_alloc ?_ _) | (with_reducible refine Kd.C_drewN ?_ _) | (with_reducible refine Kd.C_drew ?_))); (case side2 => exact (Kd.R_reads' ae.out).2.1); rintro e w117 ⟨rfl, hb⟩; refine ⟨_, rfl, ?_⟩; replace ae := Aside0.mk (Kd.R_below (by (with_reducible repeat (first | apply Kd.R_alloc | apply Kd.R_drewN | apply Kd.R_drew)); exact ae.out) hb); replace aa := Aside0.mk (k763a.q aa.out hb rfl); replace ac := Aside0.mk (k763a.q ac.out hb rfl); replace ad := Aside0.mk (k763a.q ad.out hb rfl); replace HB := Aside0.mk (below_step (by repeat (first | (with_reducible first | exact HB.out | apply below_alloc | apply pw_below_drewN | apply below_drew1 | refine below_set ?_ ah.out | refine below_set ?_ ai.out | refine below_set ?_ aj.out) | exact HB.out)) hb); (try clear hb); (try clear bb); (try clear hk); (try clear hi)) | ((with_reducible refine gate_dst (N := 14) rfl ?_); (try (refine gate_guard (by rfl) ?_; dsimp only)); refine box_event ?hg (N := 14) ?hd (cs := #[.int .u32 0, .int .i64 0]) (t := 25) ?hr ?_; (case hd => rfl); (case hg => rfl); (case hr => first | (go_simp; done) | (go_simp; rfl)); intro ab hg w118 hbox hb; have n0_ := Aside0.mk (Kd.R_below (by (with_reducible repeat (first | apply Kd.R_alloc | apply Kd.R_drewN | apply Kd.R_drew)); exact ae.out) hb); have n1_ := Aside0.mk (k763a.q aa.out hb rfl); have n2_ := Aside0.mk (k763a.q ac.out hb rfl); have n3_ := Aside0.mk (k763a.q ad.out hb rfl); have n4_ := Aside0.mk (below_step (by repeat (first | (with_reducible first | exact HB.out | apply below_alloc | apply pw_below_drewN | apply below_drew1 | refine below_set ?_ ah.out | refine below_set ?_ ai.out | refine below_set ?_ aj.out) | exact HB.out)) hb); have n5_ := Aside0.mk (hbox); have n6_ := Aside0.mk ((by rw [hg]; exact (below_size (by repeat (first | (with_reducible first | exact HB.out | apply below_alloc | apply pw_below_drewN | apply below_drew1 | refine below_set ?_ ah.out | refine below_set ?_ ai.out | refine below_set ?_ aj.out) | exact HB.out))) : w.heap.size ≤ ab)); have n7_ := Aside0.mk ((by rw [hg]; exact (below_size (by repeat (first | (with_reducible first | exact HB.out | apply below_alloc | apply pw_below_drewN | apply below_drew1 | refine below_set ?_ ah.out | refine below_set ?_ ai.out | refine below_set ?_ aj.out) | exact HB.out))) : w.heap.size ≤ ab)); have n8_ := Aside0.mk ((by rw [hg]; exact Nat.ne_of_lt (blk_lt (g := ag) (o := .cells #[.int .u32 ak, .int .i64 al] 25 (0, 0)) (by (with_reducible repeat (first | refine blk_drewN ?_ _ | refine blk_drew ?_ | refine blk_alloc ?_ _)); exact aa.out)) : ag ≠ ab)); have n9_ := Aside0.mk ((by rw [hg]; exact Nat.ne_of_gt (blk_lt (g := ag) (o := .cells #[.int .u32 ak, .int .i64 al] 25 (0, 0)) (by (with_reducible repeat (first | refine blk_drewN ?_ _ | refine blk_drew ?_ | refine blk_alloc ?_ _)); exact aa.out)) : ab ≠ ag)); have n10_ := Aside0.mk ((by rw [hg]; exact Nat.ne_of_lt (blk_lt (g := am) (o := .cells #[.int .u32 t156, .int .i64 t157] 25 (0, 0)) (by (with_reducible repeat (first | refine blk_drewN ?_ _ | refine blk_drew ?_ | refine blk_alloc ?_ _)); exact ac.out)) : am ≠ ab)); have n11_ := Aside0.mk ((by rw [hg]; exact Nat.ne_of_gt (blk_lt (g := am) (o := .cells #[.int .u32 t156, .int .i64 t157] 25 (0, 0)) (by (with_reducible repeat (first | refine blk_drewN ?_ _ | refine blk_drew ?_ | refine blk_alloc ?_ _)); exact ac.out)) : ab ≠ am)); have n12_ := Aside0.mk ((by rw [hg]; exact Nat.ne_of_lt (blk_lt (g := an) (o := .cells #[.int .u32 t161, .int .i64 t162] 25 (0, 0)) (by (with_reducible repeat (first | refine blk_drewN ?_ _ | refine blk_drew ?_ | refine blk_alloc ?_ _)); exact ad.out)) : an ≠ ab)); have n13_ := Aside0.mk ((by rw [hg]; exact Nat.ne_of_gt (blk_lt (g := an) (o := .cells #[.int .u32 t161, .int .i64 t162] 25 (0, 0)) (by (with_reducible repeat (first | refine blk_drewN ?_ _ | refine blk_drew ?_ | refine blk_alloc ?_ _)); exact ad.out)) : ab ≠ an)); clear ae; clear aa; clear ac; clear ad; clear HB; have ae := n0_; have aa := n1_; have ac := n2_; have ad := n3_; have HB := n4_; have af := n5_; have GW173 := n6_; have ao := n7_; have ap := n8_; have aw := n9_; have aq := n10_; have ax := n11_; have ar := n12_; have ay := n13_; clear n0_ n1_ n2_ n3_ n4_ n5_ n6_ n7_ n8_ n9_ n10_ n11_ n12_ n13_; clear hb hbox hg; have hnb119 := aw.out; have hnc119 := ap.out; have hnb120 := ax.out; have hnc120 := aq.out; have hnb121 := ay.out; have hnc121 := ar.out; have hcz122_0 : w118.cell? ⟨ab, 0, none⟩ = some (.int .u32 0) := (blk_cell af.out 0).trans rfl; have hcz122_1 : w118.cell? ⟨ab, 1, none⟩ = some (.int .i64 0) := (blk_cell af.out 1).trans rfl; have hfz122_0 := blk_frozen af.out 0; have hfz122_1 := blk_frozen af.out 1; (try have hcvs123_154 := fun u0_ u1_ : Value => own_string (P := Try.prog) Try.underlying22 Try.underlying5 Try.underlying9 (Kd.own_of_R (Kd.R_set (Kd.R_set ae.out aa.out (by first | decide | (intro q_ hq_; simp [Kd.int, Kd.scalar] at hq_; omega)) 0 u0_) (blk_set aa.out 0 u0_) (by first | decide | (intro q_ hq_; simp [Kd.int, Kd.scalar] at hq_; omega)) 1 u1_))); (try have hcvs123_160 := fun u0_ u1_ : Value => own_string (P := Try.prog) Try.underlying22 Try.underlying5 Try.underlying9 (Kd.own_of_R (Kd.R_set (Kd.R_set ae.out ac.out (by first | decide | (intro q_ hq_; simp [Kd.int, Kd.scalar] at hq_; omega)) 0 u0_) (blk_set ac.out 0 u0_) (by first | decide | (intro q_ hq_; simp [Kd.int, Kd.scalar] at hq_; omega)) 1 u1_))); (try have hcvs123_165 := fun u0_ u1_ : Value => own_string (P := Try.prog) Try.underlying22 Try.underlying5 Try.underlying9 (Kd.own_of_R (Kd.R_set (Kd.R_set ae.out ad.out (by first | decide | (intro q_ hq_; simp [Kd.int, Kd.scalar] at hq_; omega)) 0 u0_) (blk_set ad.out 0 u0_) (by first | decide | (intro q_ hq_; simp [Kd.int, Kd.scalar] at hq_; omega)) 1 u1_))); (try have hcvs123_173 := fun u0_ u1_ : Value => own_string (P := Try.prog) Try.underlying22 Try.underlying5 Try.underlying9 (Kd.own_of_R (Kd.R_set (Kd.R_set ae.out af.out (by first | decide | (intro q_ hq_; simp [Kd.int, Kd.scalar] at hq_; omega)) 0 u0_) (blk_set af.out 0 u0_) (by first | decide | (intro q_ hq_; simp [Kd.int, Kd.scalar] at hq_; omega)) 1 u1_))); have hcv123 := own_string (P := Try.prog) Try.underlying22 Try.underlying5 Try.underlying9 (Kd.own_of_R ae.out); (try have hcvs124_154 := fun u0_ u1_ : Value => Kd.C_string (P := Try.prog) (A := A0) (c := c0) Try.underlying22 Try.underlying5 Try.underlying9 (Kd.C_below ba.out (below_set (g := ag) (j := 1) (v := u1_) (below_set (g := ag) (j := 0) (v := u0_) HB.out ah.out) ah.out))); (try have hcvs124_160 := fun u0_ u1_ : Value => Kd.C_string (P := Try.prog) (A := A0) (c := c0) Try.underlying22 Try.underlying5 Try.underlying9 (Kd.C_below ba.out (below_set (g := am) (j := 1) (v := u1_) (below_set (g := am) (j := 0) (v := u0_) HB.out ai.out) ai.out))); (try have hcvs124_165 := fun u0_ u1_ : Value => Kd.C_string (P := Try.prog) (A := A0) (c := c0) Try.underlying22 Try.underlying5 Try.underlying9 (Kd.C_below ba.out (below_set (g := an) (j := 1) (v := u1_) (below_set (g := an) (j := 0) (v := u0_) HB.out aj.out) aj.out))); (try have hcvs124_173 := fun u0_ u1_ : Value => Kd.C_string (P := Try.prog) (A := A0) (c := c0) Try.underlying22 Try.underlying5 Try.underlying9 (Kd.C_below ba.out (below_set (g := ab) (j := 1) (v := u1_) (below_set (g := ab) (j := 0) (v := u0_) HB.out ao.out) ao.out))); have hcv124 := Kd.C_string (P := Try.prog) (A := A0) (c := c0) Try.underlying22 Try.underlying5 Try.underlying9 (Kd.C_below ba.out HB.out); (try have hcvm124 := fun m_ : Nat => Kd.C_string (P := Try.prog) (A := A0) (c := c0) Try.underlying22 Try.underlying5 Try.underlying9 (Kd.C_drewN (Kd.C_below ba.out HB.out) m_))) | (go_at_call 9; (with_reducible refine (whirligiglaw10_lives.calls bc  t176 _ A111.out).mono ?_); rintro e w125 ⟨rfl, hb⟩; replace ae := Aside0.mk (Kd.R_below (by (with_reducible repeat (first | apply Kd.R_alloc | apply Kd.R_drewN | apply Kd.R_drew)); exact (Kd.R_mono (Kd.R_far (p := ⟨ab, 1, none⟩) (Kd.R_far (p := ⟨ab, 0, none⟩) (Kd.R_types ae.out af.out (by decide)) (fun _ hk => hk.2) (.int .u32 t169)) (fun _ hk => hk.2) (.int .i64 t170)) (fun _ h_ => h_.1))) hb); replace aa := Aside0.mk (blk_below (g := ag) (o := .cells #[.int .u32 ak, .int .i64 al] 25 (0, 0)) (by (with_reducible repeat (first | refine blk_drewN ?_ _ | refine blk_drew ?_ | refine blk_alloc ?_ _)); refine blk_far ?_ ap.out _; (with_reducible repeat (first | refine blk_drewN ?_ _ | refine blk_drew ?_ | refine blk_alloc ?_ _)); refine blk_far ?_ ap.out _; (with_reducible repeat (first | refine blk_drewN ?_ _ | refine blk_drew ?_ | refine blk_alloc ?_ _)); exact aa.out) hb); replace ac := Aside0.mk (blk_below (g := am) (o := .cells #[.int .u32 t156, .int .i64 t157] 25 (0, 0)) (by (with_reducible repeat (first | refine blk_drewN ?_ _ | refine blk_drew ?_ | refine blk_alloc ?_ _)); refine blk_far ?_ aq.out _; (with_reducible repeat (first | refine blk_drewN ?_ _ | refine blk_drew ?_ | refine blk_alloc ?_ _)); refine blk_far ?_ aq.out _; (with_reducible repeat (first | refine blk_drewN ?_ _ | refine blk_drew ?_ | refine blk_alloc ?_ _)); exact ac.out) hb); replace ad := Aside0.mk (blk_below (g := an) (o := .cells #[.int .u32 t161, .int .i64 t162] 25 (0, 0)) (by (with_reducible repeat (first | refine blk_drewN ?_ _ | refine blk_drew ?_ | refine blk_alloc ?_ _)); refine blk_far ?_ ar.out _; (with_reducible repeat (first | refine blk_drewN ?_ _ | refine blk_drew ?_ | refine blk_alloc ?_ _)); refine blk_far ?_ ar.out _; (with_reducible repeat (first | refine blk_drewN ?_ _ | refine blk_drew ?_ | refine blk_alloc ?_ _)); exact ad.out) hb); replace af := Aside0.mk (blk_below (g := ab) (o := .cells #[.int .u32 t169, .int .i64 t170] 25 (0, 0)) (by (with_reducible repeat (first | refine blk_drewN ?_ _ | refine blk_drew ?_ | refine blk_alloc ?_ _)); refine blk_put (cs := #[.int .u32 t169, .int .i64 0]) ?_ 1 _ (by first | rfl | (simp; done) | (simp; omega)); (with_reducible repeat (first | refine blk_drewN ?_ _ | refine blk_drew ?_ | refine blk_alloc ?_ _)); refine blk_put (cs := #[.int .u32 0, .int .i64 0]) ?_ 0 _ (by first | rfl | (simp; done) | (simp; omega)); (with_reducible repeat (first | refine blk_drewN ?_ _ | refine blk_drew ?_ | refine blk_alloc ?_ _)); exact af.out) hb); replace HB := Aside0.mk (below_step (by repeat (first | (with_reducible first | exact HB.out | apply below_alloc | apply pw_below_drewN | apply below_drew1 | refine below_set ?_ ah.out | refine below_set ?_ ai.out | refine below_set ?_ aj.out | refine below_set ?_ ao.out) | exact HB.out)) hb); (try clear hb); (try clear bb); (try clear hk); (try clear hi)))
        go_ret
        exact ⟨by first | rfl | (simp [errW_none, errW_some] <;> rfl) | (simp [*, errW_none, errW_some] <;> rfl), by repeat (first | (with_reducible first | exact HB.out | apply below_alloc | apply pw_below_drewN | apply below_drew1 | refine below_set ?_ ah.out | refine below_set ?_ ai.out | refine below_set ?_ aj.out | refine below_set ?_ ao.out) | exact HB.out)⟩
       ·rw [if_neg c110] at H
        have c110b0 : ((strOfNums t166).toList == (strOfNums l0).toList) = false := beq_eq_false_iff_ne.mpr c110
        have c110b1 : ((strOfNums t166).toList != (strOfNums l0).toList) = true := bne_iff_ne.mpr c110
        obtain rfl := Option.some.inj H
        have hnb126 := av.out
        have hnc126 := az.out
        have hnb127 := au.out
        have hnc127 := a4.out
        have hcz128_0 : wc.cell? ⟨ag, 0, none⟩ = some (.int .u32 ak) := (blk_cell aa.out 0).trans rfl
        have hcz128_1 : wc.cell? ⟨ag, 1, none⟩ = some (.int .i64 al) := (blk_cell aa.out 1).trans rfl
        have hfz128_0 := blk_frozen aa.out 0
        have hfz128_1 := blk_frozen aa.out 1
        go_wp2_with (first | ((with_reducible refine gate_callee (f := 12) rfl ?_); refine goesL_ (some 50) rfl rfl Try.func12 (by kernel_rfl) rfl #[.slice A0 l0.length c0, .agg #[.int .u32 ak, .int .i64 al]] rfl (by (try simp only [List.map_toArray, List.map_cons, List.map_nil]); first | done | rfl) ?_; (with_reducible refine (wire_Prefix.calls bc _ _ l0 ak al t166 _ ?side1 ?side2 A39.out).mono ?_); (case side1 => repeat (first | exact (Kd.C_below ba.out HB.out) | (with_reducible refine Kd.C_alloc ?_ _) | (with_reducible refine Kd.C_drewN ?_ _) | (with_reducible refine Kd.C_drew ?_))); (case side2 => exact bf.out); rintro e w129 ⟨v167, rfl, ho0, hb⟩; refine ⟨_, rfl, ?_⟩; have ae := Aside0.mk (Kd.R_lower ho0 (below_size (by repeat (first | (with_reducible first | exact HB.out | apply below_alloc | apply pw_below_drewN | apply below_drew1 | refine below_set ?_ ah.out | refine below_set ?_ ai.out | refine below_set ?_ aj.out) | exact HB.out)))); replace aa := Aside0.mk (k763a.q aa.out hb rfl); replace ac := Aside0.mk (k763a.q ac.out hb rfl); replace ad := Aside0.mk (k763a.q ad.out hb rfl); replace HB := Aside0.mk (below_step (by repeat (first | (with_reducible first | exact HB.out | apply below_alloc | apply pw_below_drewN | apply below_drew1 | refine below_set ?_ ah.out | refine below_set ?_ ai.out | refine below_set ?_ aj.out) | exact HB.out)) hb); (try clear hb); (try clear bb); (try clear hk); (try clear hi); (try clear ho0); obtain ⟨Ao130, co130, eo130⟩ := Kd.R_slice ae.out; subst eo130) | ((with_reducible refine gate_callee (f := 10) rfl ?_); refine goesL_ (some 55) rfl rfl Try.func10 (by kernel_rfl) rfl #[.slice Ao130 t166.length co130, .int .i64 (l0.length : Int)] rfl (by (try simp only [List.map_toArray, List.map_cons, List.map_nil]); first | done | rfl) ?_; (with_reducible refine (wire_Take.calls bc _ _ t166 (l0.length : Int) t169 t170 t171 t172 _ ?side1 ?side2 A40.out).mono ?_); (case side1 => repeat (first | exact (Kd.R_reads' ae.out).2.2 | (with_reducible refine Kd.C_alloc ?_ _) | (with_reducible refine Kd.C_drewN ?_ _) | (with_reducible refine Kd.C_drew ?_))); (case side2 => exact (Kd.R_reads' ae.out).2.1); rintro e w131 ⟨rfl, hb⟩; refine ⟨_, rfl, ?_⟩; replace ae := Aside0.mk (Kd.R_below (by (with_reducible repeat (first | apply Kd.R_alloc | apply Kd.R_drewN | apply Kd.R_drew)); exact ae.out) hb); replace aa := Aside0.mk (k763a.q aa.out hb rfl); replace ac := Aside0.mk (k763a.q ac.out hb rfl); replace ad := Aside0.mk (k763a.q ad.out hb rfl); replace HB := Aside0.mk (below_step (by repeat (first | (with_reducible first | exact HB.out | apply below_alloc | apply pw_below_drewN | apply below_drew1 | refine below_set ?_ ah.out | refine below_set ?_ ai.out | refine below_set ?_ aj.out) | exact HB.out)) hb); (try clear hb); (try clear bb); (try clear hk); (try clear hi)) | ((with_reducible refine gate_dst (N := 14) rfl ?_); (try (refine gate_guard (by rfl) ?_; dsimp only)); refine box_event ?hg (N := 14) ?hd (cs := #[.int .u32 0, .int .i64 0]) (t := 25) ?hr ?_; (case hd => rfl); (case hg => rfl); (case hr => first | (go_simp; done) | (go_simp; rfl)); intro ab hg w132 hbox hb; have n0_ := Aside0.mk (Kd.R_below (by (with_reducible repeat (first | apply Kd.R_alloc | apply Kd.R_drewN | apply Kd.R_drew)); exact ae.out) hb); have n1_ := Aside0.mk (k763a.q aa.out hb rfl); have n2_ := Aside0.mk (k763a.q ac.out hb rfl); have n3_ := Aside0.mk (k763a.q ad.out hb rfl); have n4_ := Aside0.mk (below_step (by repeat (first | (with_reducible first | exact HB.out | apply below_alloc | apply pw_below_drewN | apply below_drew1 | refine below_set ?_ ah.out | refine below_set ?_ ai.out | refine below_set ?_ aj.out) | exact HB.out)) hb); have n5_ := Aside0.mk (hbox); have n6_ := Aside0.mk ((by rw [hg]; exact (below_size (by repeat (first | (with_reducible first | exact HB.out | apply below_alloc | apply pw_below_drewN | apply below_drew1 | refine below_set ?_ ah.out | refine below_set ?_ ai.out | refine below_set ?_ aj.out) | exact HB.out))) : w.heap.size ≤ ab)); have n7_ := Aside0.mk ((by rw [hg]; exact (below_size (by repeat (first | (with_reducible first | exact HB.out | apply below_alloc | apply pw_below_drewN | apply below_drew1 | refine below_set ?_ ah.out | refine below_set ?_ ai.out | refine below_set ?_ aj.out) | exact HB.out))) : w.heap.size ≤ ab)); have n8_ := Aside0.mk ((by rw [hg]; exact Nat.ne_of_lt (blk_lt (g := ag) (o := .cells #[.int .u32 ak, .int .i64 al] 25 (0, 0)) (by (with_reducible repeat (first | refine blk_drewN ?_ _ | refine blk_drew ?_ | refine blk_alloc ?_ _)); exact aa.out)) : ag ≠ ab)); have n9_ := Aside0.mk ((by rw [hg]; exact Nat.ne_of_gt (blk_lt (g := ag) (o := .cells #[.int .u32 ak, .int .i64 al] 25 (0, 0)) (by (with_reducible repeat (first | refine blk_drewN ?_ _ | refine blk_drew ?_ | refine blk_alloc ?_ _)); exact aa.out)) : ab ≠ ag)); have n10_ := Aside0.mk ((by rw [hg]; exact Nat.ne_of_lt (blk_lt (g := am) (o := .cells #[.int .u32 t156, .int .i64 t157] 25 (0, 0)) (by (with_reducible repeat (first | refine blk_drewN ?_ _ | refine blk_drew ?_ | refine blk_alloc ?_ _)); exact ac.out)) : am ≠ ab)); have n11_ := Aside0.mk ((by rw [hg]; exact Nat.ne_of_gt (blk_lt (g := am) (o := .cells #[.int .u32 t156, .int .i64 t157] 25 (0, 0)) (by (with_reducible repeat (first | refine blk_drewN ?_ _ | refine blk_drew ?_ | refine blk_alloc ?_ _)); exact ac.out)) : ab ≠ am)); have n12_ := Aside0.mk ((by rw [hg]; exact Nat.ne_of_lt (blk_lt (g := an) (o := .cells #[.int .u32 t161, .int .i64 t162] 25 (0, 0)) (by (with_reducible repeat (first | refine blk_drewN ?_ _ | refine blk_drew ?_ | refine blk_alloc ?_ _)); exact ad.out)) : an ≠ ab)); have n13_ := Aside0.mk ((by rw [hg]; exact Nat.ne_of_gt (blk_lt (g := an) (o := .cells #[.int .u32 t161, .int .i64 t162] 25 (0, 0)) (by (with_reducible repeat (first | refine blk_drewN ?_ _ | refine blk_drew ?_ | refine blk_alloc ?_ _)); exact ad.out)) : ab ≠ an)); clear ae; clear aa; clear ac; clear ad; clear HB; have ae := n0_; have aa := n1_; have ac := n2_; have ad := n3_; have HB := n4_; have af := n5_; have GW173 := n6_; have ao := n7_; have ap := n8_; have aw := n9_; have aq := n10_; have ax := n11_; have ar := n12_; have ay := n13_; clear n0_ n1_ n2_ n3_ n4_ n5_ n6_ n7_ n8_ n9_ n10_ n11_ n12_ n13_; clear hb hbox hg; have hnb133 := aw.out; have hnc133 := ap.out; have hnb134 := ax.out; have hnc134 := aq.out; have hnb135 := ay.out; have hnc135 := ar.out; have hcz136_0 : w132.cell? ⟨ab, 0, none⟩ = some (.int .u32 0) := (blk_cell af.out 0).trans rfl; have hcz136_1 : w132.cell? ⟨ab, 1, none⟩ = some (.int .i64 0) := (blk_cell af.out 1).trans rfl; have hfz136_0 := blk_frozen af.out 0; have hfz136_1 := blk_frozen af.out 1; (try have hcvs137_154 := fun u0_ u1_ : Value => own_string (P := Try.prog) Try.underlying22 Try.underlying5 Try.underlying9 (Kd.own_of_R (Kd.R_set (Kd.R_set ae.out aa.out (by first | decide | (intro q_ hq_; simp [Kd.int, Kd.scalar] at hq_; omega)) 0 u0_) (blk_set aa.out 0 u0_) (by first | decide | (intro q_ hq_; simp [Kd.int, Kd.scalar] at hq_; omega)) 1 u1_))); (try have hcvs137_160 := fun u0_ u1_ : Value => own_string (P := Try.prog) Try.underlying22 Try.underlying5 Try.underlying9 (Kd.own_of_R (Kd.R_set (Kd.R_set ae.out ac.out (by first | decide | (intro q_ hq_; simp [Kd.int, Kd.scalar] at hq_; omega)) 0 u0_) (blk_set ac.out 0 u0_) (by first | decide | (intro q_ hq_; simp [Kd.int, Kd.scalar] at hq_; omega)) 1 u1_))); (try have hcvs137_165 := fun u0_ u1_ : Value => own_string (P := Try.prog) Try.underlying22 Try.underlying5 Try.underlying9 (Kd.own_of_R (Kd.R_set (Kd.R_set ae.out ad.out (by first | decide | (intro q_ hq_; simp [Kd.int, Kd.scalar] at hq_; omega)) 0 u0_) (blk_set ad.out 0 u0_) (by first | decide | (intro q_ hq_; simp [Kd.int, Kd.scalar] at hq_; omega)) 1 u1_))); (try have hcvs137_173 := fun u0_ u1_ : Value => own_string (P := Try.prog) Try.underlying22 Try.underlying5 Try.underlying9 (Kd.own_of_R (Kd.R_set (Kd.R_set ae.out af.out (by first | decide | (intro q_ hq_; simp [Kd.int, Kd.scalar] at hq_; omega)) 0 u0_) (blk_set af.out 0 u0_) (by first | decide | (intro q_ hq_; simp [Kd.int, Kd.scalar] at hq_; omega)) 1 u1_))); have hcv137 := own_string (P := Try.prog) Try.underlying22 Try.underlying5 Try.underlying9 (Kd.own_of_R ae.out); (try have hcvs138_154 := fun u0_ u1_ : Value => Kd.C_string (P := Try.prog) (A := A0) (c := c0) Try.underlying22 Try.underlying5 Try.underlying9 (Kd.C_below ba.out (below_set (g := ag) (j := 1) (v := u1_) (below_set (g := ag) (j := 0) (v := u0_) HB.out ah.out) ah.out))); (try have hcvs138_160 := fun u0_ u1_ : Value => Kd.C_string (P := Try.prog) (A := A0) (c := c0) Try.underlying22 Try.underlying5 Try.underlying9 (Kd.C_below ba.out (below_set (g := am) (j := 1) (v := u1_) (below_set (g := am) (j := 0) (v := u0_) HB.out ai.out) ai.out))); (try have hcvs138_165 := fun u0_ u1_ : Value => Kd.C_string (P := Try.prog) (A := A0) (c := c0) Try.underlying22 Try.underlying5 Try.underlying9 (Kd.C_below ba.out (below_set (g := an) (j := 1) (v := u1_) (below_set (g := an) (j := 0) (v := u0_) HB.out aj.out) aj.out))); (try have hcvs138_173 := fun u0_ u1_ : Value => Kd.C_string (P := Try.prog) (A := A0) (c := c0) Try.underlying22 Try.underlying5 Try.underlying9 (Kd.C_below ba.out (below_set (g := ab) (j := 1) (v := u1_) (below_set (g := ab) (j := 0) (v := u0_) HB.out ao.out) ao.out))); have hcv138 := Kd.C_string (P := Try.prog) (A := A0) (c := c0) Try.underlying22 Try.underlying5 Try.underlying9 (Kd.C_below ba.out HB.out); (try have hcvm138 := fun m_ : Nat => Kd.C_string (P := Try.prog) (A := A0) (c := c0) Try.underlying22 Try.underlying5 Try.underlying9 (Kd.C_drewN (Kd.C_below ba.out HB.out) m_))))
        go_ret
        exact ⟨by first | rfl | (simp [errW_none, errW_some] <;> rfl) | (simp [*, errW_none, errW_some] <;> rfl), by repeat (first | (with_reducible first | exact HB.out | apply below_alloc | apply pw_below_drewN | apply below_drew1 | refine below_set ?_ ah.out | refine below_set ?_ ai.out | refine below_set ?_ aj.out | refine below_set ?_ ao.out) | exact HB.out)⟩
      ·rw [if_neg bd] at H
       have c109b0 : ((t166.length : Int) == (l0.length : Int)) = false := beq_eq_false_iff_ne.mpr bd
       have c109b1 : ((t166.length : Int) != (l0.length : Int)) = true := bne_iff_ne.mpr bd
       have c109b2 : (t166.length == l0.length) = false := by first | simpa using bd | (simp at bd ⊢; omega)
       obtain rfl := Option.some.inj H
       have hnb139 := av.out
       have hnc139 := az.out
       have hnb140 := au.out
       have hnc140 := a4.out
       have hcz141_0 : wc.cell? ⟨ag, 0, none⟩ = some (.int .u32 ak) := (blk_cell aa.out 0).trans rfl
       have hcz141_1 : wc.cell? ⟨ag, 1, none⟩ = some (.int .i64 al) := (blk_cell aa.out 1).trans rfl
       have hfz141_0 := blk_frozen aa.out 0
       have hfz141_1 := blk_frozen aa.out 1
       go_wp2_with (first | ((with_reducible refine gate_callee (f := 12) rfl ?_); refine goesL_ (some 50) rfl rfl Try.func12 (by kernel_rfl) rfl #[.slice A0 l0.length c0, .agg #[.int .u32 ak, .int .i64 al]] rfl (by (try simp only [List.map_toArray, List.map_cons, List.map_nil]); first | done | rfl) ?_; (with_reducible refine (wire_Prefix.calls bc _ _ l0 ak al t166 _ ?side1 ?side2 A39.out).mono ?_); (case side1 => repeat (first | exact (Kd.C_below ba.out HB.out) | (with_reducible refine Kd.C_alloc ?_ _) | (with_reducible refine Kd.C_drewN ?_ _) | (with_reducible refine Kd.C_drew ?_))); (case side2 => exact bf.out); rintro e w142 ⟨v167, rfl, ho0, hb⟩; refine ⟨_, rfl, ?_⟩; have ae := Aside0.mk (Kd.R_lower ho0 (below_size (by repeat (first | (with_reducible first | exact HB.out | apply below_alloc | apply pw_below_drewN | apply below_drew1 | refine below_set ?_ ah.out | refine below_set ?_ ai.out | refine below_set ?_ aj.out) | exact HB.out)))); replace aa := Aside0.mk (k763a.q aa.out hb rfl); replace ac := Aside0.mk (k763a.q ac.out hb rfl); replace ad := Aside0.mk (k763a.q ad.out hb rfl); replace HB := Aside0.mk (below_step (by repeat (first | (with_reducible first | exact HB.out | apply below_alloc | apply pw_below_drewN | apply below_drew1 | refine below_set ?_ ah.out | refine below_set ?_ ai.out | refine below_set ?_ aj.out) | exact HB.out)) hb); (try clear hb); (try clear bb); (try clear hk); (try clear hi); (try clear ho0); obtain ⟨Ao143, co143, eo143⟩ := Kd.R_slice ae.out; subst eo143) | ((with_reducible refine gate_callee (f := 10) rfl ?_); refine goesL_ (some 55) rfl rfl Try.func10 (by kernel_rfl) rfl #[.slice Ao143 t166.length co143, .int .i64 (l0.length : Int)] rfl (by (try simp only [List.map_toArray, List.map_cons, List.map_nil]); first | done | rfl) ?_; (with_reducible refine (wire_Take.calls bc _ _ t166 (l0.length : Int) t169 t170 t171 t172 _ ?side1 ?side2 A40.out).mono ?_); (case side1 => repeat (first | exact (Kd.R_reads' ae.out).2.2 | (with_reducible refine Kd.C_alloc ?_ _) | (with_reducible refine Kd.C_drewN ?_ _) | (with_reducible refine Kd.C_drew ?_))); (case side2 => exact (Kd.R_reads' ae.out).2.1); rintro e w144 ⟨rfl, hb⟩; refine ⟨_, rfl, ?_⟩; replace ae := Aside0.mk (Kd.R_below (by (with_reducible repeat (first | apply Kd.R_alloc | apply Kd.R_drewN | apply Kd.R_drew)); exact ae.out) hb); replace aa := Aside0.mk (k763a.q aa.out hb rfl); replace ac := Aside0.mk (k763a.q ac.out hb rfl); replace ad := Aside0.mk (k763a.q ad.out hb rfl); replace HB := Aside0.mk (below_step (by repeat (first | (with_reducible first | exact HB.out | apply below_alloc | apply pw_below_drewN | apply below_drew1 | refine below_set ?_ ah.out | refine below_set ?_ ai.out | refine below_set ?_ aj.out) | exact HB.out)) hb); (try clear hb); (try clear bb); (try clear hk); (try clear hi)) | ((with_reducible refine gate_dst (N := 14) rfl ?_); (try (refine gate_guard (by rfl) ?_; dsimp only)); refine box_event ?hg (N := 14) ?hd (cs := #[.int .u32 0, .int .i64 0]) (t := 25) ?hr ?_; (case hd => rfl); (case hg => rfl); (case hr => first | (go_simp; done) | (go_simp; rfl)); intro ab hg w145 hbox hb; have n0_ := Aside0.mk (Kd.R_below (by (with_reducible repeat (first | apply Kd.R_alloc | apply Kd.R_drewN | apply Kd.R_drew)); exact ae.out) hb); have n1_ := Aside0.mk (k763a.q aa.out hb rfl); have n2_ := Aside0.mk (k763a.q ac.out hb rfl); have n3_ := Aside0.mk (k763a.q ad.out hb rfl); have n4_ := Aside0.mk (below_step (by repeat (first | (with_reducible first | exact HB.out | apply below_alloc | apply pw_below_drewN | apply below_drew1 | refine below_set ?_ ah.out | refine below_set ?_ ai.out | refine below_set ?_ aj.out) | exact HB.out)) hb); have n5_ := Aside0.mk (hbox); have n6_ := Aside0.mk ((by rw [hg]; exact (below_size (by repeat (first | (with_reducible first | exact HB.out | apply below_alloc | apply pw_below_drewN | apply below_drew1 | refine below_set ?_ ah.out | refine below_set ?_ ai.out | refine below_set ?_ aj.out) | exact HB.out))) : w.heap.size ≤ ab)); have n7_ := Aside0.mk ((by rw [hg]; exact (below_size (by repeat (first | (with_reducible first | exact HB.out | apply below_alloc | apply pw_below_drewN | apply below_drew1 | refine below_set ?_ ah.out | refine below_set ?_ ai.out | refine below_set ?_ aj.out) | exact HB.out))) : w.heap.size ≤ ab)); have n8_ := Aside0.mk ((by rw [hg]; exact Nat.ne_of_lt (blk_lt (g := ag) (o := .cells #[.int .u32 ak, .int .i64 al] 25 (0, 0)) (by (with_reducible repeat (first | refine blk_drewN ?_ _ | refine blk_drew ?_ | refine blk_alloc ?_ _)); exact aa.out)) : ag ≠ ab)); have n9_ := Aside0.mk ((by rw [hg]; exact Nat.ne_of_gt (blk_lt (g := ag) (o := .cells #[.int .u32 ak, .int .i64 al] 25 (0, 0)) (by (with_reducible repeat (first | refine blk_drewN ?_ _ | refine blk_drew ?_ | refine blk_alloc ?_ _)); exact aa.out)) : ab ≠ ag)); have n10_ := Aside0.mk ((by rw [hg]; exact Nat.ne_of_lt (blk_lt (g := am) (o := .cells #[.int .u32 t156, .int .i64 t157] 25 (0, 0)) (by (with_reducible repeat (first | refine blk_drewN ?_ _ | refine blk_drew ?_ | refine blk_alloc ?_ _)); exact ac.out)) : am ≠ ab)); have n11_ := Aside0.mk ((by rw [hg]; exact Nat.ne_of_gt (blk_lt (g := am) (o := .cells #[.int .u32 t156, .int .i64 t157] 25 (0, 0)) (by (with_reducible repeat (first | refine blk_drewN ?_ _ | refine blk_drew ?_ | refine blk_alloc ?_ _)); exact ac.out)) : ab ≠ am)); have n12_ := Aside0.mk ((by rw [hg]; exact Nat.ne_of_lt (blk_lt (g := an) (o := .cells #[.int .u32 t161, .int .i64 t162] 25 (0, 0)) (by (with_reducible repeat (first | refine blk_drewN ?_ _ | refine blk_drew ?_ | refine blk_alloc ?_ _)); exact ad.out)) : an ≠ ab)); have n13_ := Aside0.mk ((by rw [hg]; exact Nat.ne_of_gt (blk_lt (g := an) (o := .cells #[.int .u32 t161, .int .i64 t162] 25 (0, 0)) (by (with_reducible repeat (first | refine blk_drewN ?_ _ | refine blk_drew ?_ | refine blk_alloc ?_ _)); exact ad.out)) : ab ≠ an)); clear ae; clear aa; clear ac; clear ad; clear HB; have ae := n0_; have aa := n1_; have ac := n2_; have ad := n3_; have HB := n4_; have af := n5_; have GW173 := n6_; have ao := n7_; have ap := n8_; have aw := n9_; have aq := n10_; have ax := n11_; have ar := n12_; have ay := n13_; clear n0_ n1_ n2_ n3_ n4_ n5_ n6_ n7_ n8_ n9_ n10_ n11_ n12_ n13_; clear hb hbox hg; have hnb146 := aw.out; have hnc146 := ap.out; have hnb147 := ax.out; have hnc147 := aq.out; have hnb148 := ay.out; have hnc148 := ar.out; have hcz149_0 : w145.cell? ⟨ab, 0, none⟩ = some (.int .u32 0) := (blk_cell af.out 0).trans rfl; have hcz149_1 : w145.cell? ⟨ab, 1, none⟩ = some (.int .i64 0) := (blk_cell af.out 1).trans rfl; have hfz149_0 := blk_frozen af.out 0; have hfz149_1 := blk_frozen af.out 1))
       go_ret
       exact ⟨by first | rfl | (simp [errW_none, errW_some] <;> rfl) | (simp [*, errW_none, errW_some] <;> rfl), by repeat (first | (with_reducible first | exact HB.out | apply below_alloc | apply pw_below_drewN | apply below_drew1 | refine below_set ?_ ah.out | refine below_set ?_ ai.out | refine below_set ?_ aj.out | refine below_set ?_ ao.out) | exact HB.out)⟩

end Go.Proofs.Ytjmpojfpbhihpaa.P

end

/- Part of the proof of RowAddrTexts: what it asks of functions, words and plain facts (put together by this session's own program, wip/tools/shake.py). -/
import Derived.Test.YtckffheolnmcnaaDoorZAddrTexts0
import Derived.Test.YtckffheolnmcnaaDoorZAddrTexts1
import Derived.Test.YtckffheolnmcnaaDoorZAddrTexts2
import Derived.Test.YtckffheolnmcnaaDoorZAddrTexts3
import Derived.Test.YtckffheolnmcnaaDoorZAddrTexts4
import Derived.Deep.Slices
import Derived.ChangeArms
import Derived.OpenShut
import Derived.SizedLaws
import Derived.KernelRfl
import Derived.Lib.IndexLaws
import Derived.Lib.SplitLaws
import Derived.Lib.IndexBytes
section
namespace Go.Proofs.YtckffheolnmcnaaDoor.P
open Go.RowKit Go.Proofs.YtckffheolnmcnaaDoorW.PrintWords Go.Proofs.YtckffheolnmcnaaDoorW.PrintLast Go.Proofs.YtckffheolnmcnaaDoorW.PrintMore
attribute [local go_sem] max2_int min2_int max_two min_two max_three min_three max_four min_four   -- for this text's walks alone
set_option linter.unusedVariables false
set_option linter.unusedSimpArgs false

attribute [local go_sem high] eqA24
def whirligiglaw01_AddrTexts.f (k : Nat) (a0_0 : Int) (a0_1 : Int) (a1 : ByteArray) : Option (Bool) := if (a1.size : Int) > 2000 then ((whirligiglaw01_lives.f k).bind fun t187 => (some t187)) else ((addr_Parse.f k a1).bind fun bt188 => ((whirligigref01_Parse.f k a1).bind fun bt192 => ((addr_May.f a0_0 a0_1).bind fun t196 => ((whirligigref01_May.f k a0_0 a0_1).bind fun t197 => (if (t196 == t197) = true then ((addr_Text.f k a0_0 a0_1).bind fun t198 => ((whirligigref01_Text.f k a0_0 a0_1).bind fun t199 => (if t198.toList = t199.toList then (if (bt188.1 == bt192.1 && (bt188.2.1 == bt192.2.1)) = true then (if bt188.2.2 = bt192.2.2 then ((whirligiglaw01_lives.f k).bind fun t200 => (some t200)) else (some false)) else (some false)) else (some false)))) else (some false))))))
def whirligiglaw01_AddrTexts.T5 : Bool × List (List Nat × List Nat) := (true, [([], []), ([0], [0]), ([], []), ([2, 1], [2]), ([1, 3], [1, 3]), ([4, 3], [4]), ([5], [5]), ([6, 5, 5], [5, 6]), ([5], [5]), ([8, 7, 5], [5, 8]), ([7, 9, 5], [5, 7, 9]), ([5, 10], [5, 10]), ([11, 9], [11]), ([12], [12]), ([12], [12]), ([13, 14, 12], [12, 13, 14]), ([12, 15], [12, 15]), ([16, 12], [16]), ([17], [17]), ([17], [17]), ([18, 19, 17], [17, 18, 19]), ([17, 20], [17, 20]), ([21, 17], [21]), ([22, 22], [22]), ([22, 23], [22, 23]), ([24, 23, 0, 1, 2, 3, 4, 5, 6, 7, 8, 9, 10, 11, 12, 13, 14, 15, 16, 17, 18, 19, 20, 21, 22, 23, 24], [24])])
def whirligiglaw01_AddrTexts.B5 : List Nat := [0, 1, 0, 7, 15, 31, 63, 127, 63, 511, 1023, 2047, 4095, 8191, 8191, 32767, 65535, 131071, 262143, 262143, 1048575, 2097151, 4194303, 8388607, 16777215, 33554431]
theorem whirligiglaw01_AddrTexts.tab5 : rtab .any (opsOf Tryd.f3 5) = whirligiglaw01_AddrTexts.T5 := by kernel_rfl
theorem whirligiglaw01_AddrTexts.bits5 : waitsOk whirligiglaw01_AddrTexts.T5.2 whirligiglaw01_AddrTexts.B5 = true := by kernel_rfl
theorem ke2b2.b2 {W : World} {g : Nat} {v0 v1 : Value} {t : TypeId} (h : W.heap[g]? = some (.cells #[v0, v1] t (0, 0))) {R : Prop} (r : R) : W.cell? ⟨g, 0, none⟩ = some v0 ∧ W.cell? ⟨g, 1, none⟩ = some v1 ∧ R :=
  ⟨(blk_cell h 0).trans rfl, (blk_cell h 1).trans rfl, r⟩
theorem ke2b2.b2e {W : World} {g : Nat} {v0 v1 : Value} {t : TypeId} (h : W.heap[g]? = some (.cells #[v0, v1] t (0, 0))) : W.cell? ⟨g, 0, none⟩ = some v0 ∧ W.cell? ⟨g, 1, none⟩ = some v1 :=
  ⟨(blk_cell h 0).trans rfl, (blk_cell h 1).trans rfl⟩
theorem ke2b2.q {w W W' : World} {g : Nat} {o : Obj} (h : w.heap[g]? = some o) (hb : Below W.heap.size W W') (e : W.heap = w.heap) : W'.heap[g]? = some o := blk_below (e ▸ h) hb
theorem ke2b2.z {w0 w W W' : World} (h : Below w0.heap.size w0 w) (hb : Below W.heap.size W W') (e : W.heap = w.heap) (e1 : W.os = w.os) (e2 : W.tape = w.tape) (e3 : W.output = w.output) : Below w0.heap.size w0 W' := below_step ⟨e1.trans h.os, e2.trans h.tape, e3.trans h.output, e ▸ h.size, fun k hk => by rw [e]; exact h.block k hk⟩ hb
@[reducible] def ke2b2.S0 (g0 g1 g2 : Nat) (v0 v1 v2 v3 v4 v5 : Value) (w' : World) : Prop := w'.cell? ⟨g0, 0, none⟩ = some v0 ∧ w'.cell? ⟨g0, 1, none⟩ = some v1 ∧ w'.cell? ⟨g1, 0, none⟩ = some v2 ∧ w'.cell? ⟨g1, 1, none⟩ = some v3 ∧ w'.cell? ⟨g2, 0, none⟩ = some v4 ∧ w'.cell? ⟨g2, 1, none⟩ = some v5
@[reducible] def ke2b2.S1 (g0 : Nat) (v0 v1 : Value) (w' : World) : Prop := w'.cell? ⟨g0, 0, none⟩ = some v0 ∧ w'.cell? ⟨g0, 1, none⟩ = some v1
set_option maxHeartbeats 8000000 in
set_option maxRecDepth 100000 in
theorem whirligiglaw01_AddrTexts.calls (k : Nat) (ai : Int) (aj : Int) (a1 : ByteArray) (r : Bool) (w : World) (h : whirligiglaw01_AddrTexts.f k ai aj a1 = some r) :
  Calls Tryd.prog 3 #[.agg #[.int .u32 ai, .int .i64 aj], .string a1] w fun e w' => e = .returned (.bool r) ∧ Below w.heap.size w w' := by
 have hu24 := Tryd.underlying24
 have HB := Aside0.mk (Below.refl w.heap.size w)
 have H := h
 unfold whirligiglaw01_AddrTexts.f at H
 clear h
 by_cases c3 : (a1.size : Int) > 2000
 ·rw [if_pos c3] at H
  have c3b0 : decide (2000 < (a1.size : Int)) = true := decide_eq_true c3
  have c3b1 : decide (2000 < a1.size) = true := decide_eq_true (by omega)
  clear c3
  replace H := Option.bind_eq_some_iff.mp H
  obtain ⟨t187, A40, H⟩ := H
  replace H : (some t187) = some r := H
  have A4 := Aside0.mk A40
  clear A40
  obtain rfl := Option.some.inj H
  go_enter Tryd.func3, Tryd.ntmps3
  go_wp2_with (first | ((with_reducible refine gate_dst (N := 2) rfl ?_); refine box_event ?hg (N := 2) ?hd (cs := #[.int .u32 ai, .int .i64 aj]) (t := 24) ?hr ?_; (case hd => rfl); (case hg => rfl); (case hr => first | (go_simp; done) | (go_simp; rfl)); intro af hg w5 hbox hb; have n0_ := Aside0.mk (ke2b2.z HB.out hb rfl rfl rfl rfl); have n1_ := Aside0.mk (hbox); have n2_ := Aside0.mk ((by rw [hg]; exact (below_size (by repeat (first | (with_reducible first | exact HB.out | apply below_alloc | apply pw_below_drewN | apply below_drew1) | exact HB.out))) : w.heap.size ≤ af)); have n3_ := Aside0.mk ((by rw [hg]; exact (below_size (by repeat (first | (with_reducible first | exact HB.out | apply below_alloc | apply pw_below_drewN | apply below_drew1) | exact HB.out))) : w.heap.size ≤ af)); clear HB; have HB := n0_; have aa := n1_; have GW186 := n2_; have ae := n3_; clear n0_ n1_ n2_ n3_; clear hb hbox hg) | ((with_reducible refine gate_callee (f := 4) rfl ?_); refine goesL_ (some 12) rfl rfl Tryd.func4 (by kernel_rfl) rfl #[] rfl (by (try simp only [List.map_toArray, List.map_cons, List.map_nil]); first | done | rfl) ?_; (with_reducible refine (whirligiglaw01_lives.calls k  t187 _ A4.out).mono ?_); rintro e w6 ⟨rfl, hb⟩; refine ⟨_, rfl, ?_⟩; replace aa := Aside0.mk (ke2b2.q aa.out hb rfl); replace HB := Aside0.mk (below_step (by repeat (first | (with_reducible first | exact HB.out | apply below_alloc | apply pw_below_drewN | apply below_drew1 | refine below_set ?_ ae.out) | exact HB.out)) hb); (try clear hb); (try clear ar); (try clear hk); (try clear hi)))
  go_ret
  exact ⟨by first | rfl | (simp [errW_none, errW_some] <;> rfl) | (simp [*, errW_none, errW_some] <;> rfl), by repeat (first | (with_reducible first | exact HB.out | apply below_alloc | apply pw_below_drewN | apply below_drew1 | refine below_set ?_ ae.out) | exact HB.out)⟩
 ·rw [if_neg c3] at H
  have c3b0 : decide (2000 < (a1.size : Int)) = false := decide_eq_false c3
  have c3b1 : decide (2000 < a1.size) = false := decide_eq_false (by omega)
  clear c3
  replace H := Option.bind_eq_some_iff.mp H
  obtain ⟨⟨t188, t189, t190⟩, A70, H⟩ := H
  (try dsimp only at H)
  have A7 := Aside0.mk A70
  clear A70
  replace H := Option.bind_eq_some_iff.mp H
  obtain ⟨⟨t192, t193, t194⟩, A80, H⟩ := H
  (try dsimp only at H)
  have A8 := Aside0.mk A80
  clear A80
  replace H := Option.bind_eq_some_iff.mp H
  obtain ⟨t196, A90, H⟩ := H
  (try dsimp only at H)
  have A9 := Aside0.mk A90
  clear A90
  replace H := Option.bind_eq_some_iff.mp H
  obtain ⟨t197, A100, H⟩ := H
  (try dsimp only at H)
  have A10 := Aside0.mk A100
  clear A100
  by_cases au : (t196 == t197) = true
  ·rw [if_pos au] at H
   have c11b0 : (t196 == t197) = true := au
   (try (have c11b1 : decide (t196 = t197) = true := by simpa using au))
   (try (have c11b2 : (t196 == t197) = true := by simpa using au))
   clear au
   replace H := Option.bind_eq_some_iff.mp H
   obtain ⟨t198, A120, H⟩ := H
   (try dsimp only at H)
   have A12 := Aside0.mk A120
   clear A120
   replace H := Option.bind_eq_some_iff.mp H
   obtain ⟨t199, A130, H⟩ := H
   (try dsimp only at H)
   have A13 := Aside0.mk A130
   clear A130
   by_cases c14 : t198.toList = t199.toList
   ·rw [if_pos c14] at H
    have c14b0 : (t198.toList == t199.toList) = true := beq_iff_eq.mpr c14
    have c14b1 : (t198.toList != t199.toList) = false := bne_eq_false_iff_eq.mpr c14
    clear c14
    by_cases av : (t188 == t192 && (t189 == t193)) = true
    ·rw [if_pos av] at H
     have c15b0 : (t188 == t192 && (t189 == t193)) = true := av
     (try (have c15b1 : decide (t188 = t192 && (t189 == t193)) = true := by simpa using av))
     (try (have c15b2 : (t188 == t192 && (t189 == t193)) = true := by simpa using av))
     clear av
     by_cases c16 : t190 = t194
     ·rw [if_pos c16] at H
      have c16b0 : (t190 == t194) = true := beq_iff_eq.mpr c16
      have c16b1 : (t190 != t194) = false := bne_eq_false_iff_eq.mpr c16
      clear c16
      replace H := Option.bind_eq_some_iff.mp H
      obtain ⟨t200, A170, H⟩ := H
      replace H : (some t200) = some r := H
      have A17 := Aside0.mk A170
      clear A170
      obtain rfl := Option.some.inj H
      go_enter Tryd.func3, Tryd.ntmps3
      try go_wp2_with (first | ((with_reducible refine gate_dst (N := 2) rfl ?_); refine box_event ?hg (N := 2) ?hd (cs := #[.int .u32 ai, .int .i64 aj]) (t := 24) ?hr ?_; (case hd => rfl); (case hg => rfl); (case hr => first | (go_simp; done) | (go_simp; rfl)); intro af hg w18 hbox hb; have n0_ := Aside0.mk (ke2b2.z HB.out hb rfl rfl rfl rfl); have n1_ := Aside0.mk (hbox); have n2_ := Aside0.mk ((by rw [hg]; exact (below_size (by repeat (first | (with_reducible first | exact HB.out | apply below_alloc | apply pw_below_drewN | apply below_drew1) | exact HB.out))) : w.heap.size ≤ af)); have n3_ := Aside0.mk ((by rw [hg]; exact (below_size (by repeat (first | (with_reducible first | exact HB.out | apply below_alloc | apply pw_below_drewN | apply below_drew1) | exact HB.out))) : w.heap.size ≤ af)); clear HB; have HB := n0_; have aa := n1_; have GW186 := n2_; have ae := n3_; clear n0_ n1_ n2_ n3_; clear hb hbox hg) | ((with_reducible refine gate_callee (f := 5) rfl ?_); refine goesL_ (some 15) rfl rfl Tryd.func5 (by kernel_rfl) rfl #[.string a1] rfl (by (try simp only [List.map_toArray, List.map_cons, List.map_nil]); first | done | rfl) ?_; (with_reducible refine (addr_Parse.calls k a1 t188 t189 t190 _ A7.out).mono ?_); rintro e w19 ⟨rfl, hb⟩; refine ⟨_, rfl, ?_⟩; replace aa := Aside0.mk (ke2b2.q aa.out hb rfl); replace HB := Aside0.mk (below_step (by repeat (first | (with_reducible first | exact HB.out | apply below_alloc | apply pw_below_drewN | apply below_drew1 | refine below_set ?_ ae.out) | exact HB.out)) hb); (try clear hb); (try clear ar); (try clear hk); (try clear hi)) | ((with_reducible refine gate_dst (N := 5) rfl ?_); refine box_event ?hg (N := 5) ?hd (cs := #[.int .u32 0, .int .i64 0]) (t := 24) ?hr ?_; (case hd => rfl); (case hg => rfl); (case hr => first | (go_simp; done) | (go_simp; rfl)); intro ag hg w20 hbox hb; have n0_ := Aside0.mk (ke2b2.q aa.out hb rfl); have n1_ := Aside0.mk (below_step (by repeat (first | (with_reducible first | exact HB.out | apply below_alloc | apply pw_below_drewN | apply below_drew1 | refine below_set ?_ ae.out) | exact HB.out)) hb); have n2_ := Aside0.mk (hbox); have n3_ := Aside0.mk ((by rw [hg]; exact (below_size (by repeat (first | (with_reducible first | exact HB.out | apply below_alloc | apply pw_below_drewN | apply below_drew1 | refine below_set ?_ ae.out) | exact HB.out))) : w.heap.size ≤ ag)); have n4_ := Aside0.mk ((by rw [hg]; exact (below_size (by repeat (first | (with_reducible first | exact HB.out | apply below_alloc | apply pw_below_drewN | apply below_drew1 | refine below_set ?_ ae.out) | exact HB.out))) : w.heap.size ≤ ag)); have n5_ := Aside0.mk ((by rw [hg]; exact Nat.ne_of_lt (blk_lt (g := af) (o := .cells #[.int .u32 ai, .int .i64 aj] 24 (0, 0)) (by (with_reducible repeat (first | refine blk_drewN ?_ _ | refine blk_drew ?_ | refine blk_alloc ?_ _)); exact aa.out)) : af ≠ ag)); have n6_ := Aside0.mk ((by rw [hg]; exact Nat.ne_of_gt (blk_lt (g := af) (o := .cells #[.int .u32 ai, .int .i64 aj] 24 (0, 0)) (by (with_reducible repeat (first | refine blk_drewN ?_ _ | refine blk_drew ?_ | refine blk_alloc ?_ _)); exact aa.out)) : ag ≠ af)); clear aa; clear HB; have aa := n0_; have HB := n1_; have ab := n2_; have GW191 := n3_; have ah := n4_; have ak := n5_; have ao := n6_; clear n0_ n1_ n2_ n3_ n4_ n5_ n6_; clear hb hbox hg; have hnb21 := ao.out; have hnc21 := ak.out; have hcz22_0 : w20.cell? ⟨ag, 0, none⟩ = some (.int .u32 0) := (blk_cell ab.out 0).trans rfl; have hcz22_1 : w20.cell? ⟨ag, 1, none⟩ = some (.int .i64 0) := (blk_cell ab.out 1).trans rfl; have hfz22_0 := blk_frozen ab.out 0; have hfz22_1 := blk_frozen ab.out 1) | ((with_reducible refine gate_callee (f := 6) rfl ?_); refine goesL_ (some 20) rfl rfl Tryd.func6 (by kernel_rfl) rfl #[.string a1] rfl (by (try simp only [List.map_toArray, List.map_cons, List.map_nil]); first | done | rfl) ?_; (with_reducible refine (whirligigref01_Parse.calls k a1 t192 t193 t194 _ A8.out).mono ?_); rintro e w23 ⟨rfl, hb⟩; refine ⟨_, rfl, ?_⟩; replace aa := Aside0.mk (blk_below (g := af) (o := .cells #[.int .u32 ai, .int .i64 aj] 24 (0, 0)) (by (with_reducible repeat (first | refine blk_drewN ?_ _ | refine blk_drew ?_ | refine blk_alloc ?_ _)); refine blk_far ?_ ak.out _; (with_reducible repeat (first | refine blk_drewN ?_ _ | refine blk_drew ?_ | refine blk_alloc ?_ _)); refine blk_far ?_ ak.out _; (with_reducible repeat (first | refine blk_drewN ?_ _ | refine blk_drew ?_ | refine blk_alloc ?_ _)); exact aa.out) hb); replace ab := Aside0.mk (blk_below (g := ag) (o := .cells #[.int .u32 t188, .int .i64 t189] 24 (0, 0)) (by (with_reducible repeat (first | refine blk_drewN ?_ _ | refine blk_drew ?_ | refine blk_alloc ?_ _)); refine blk_put (cs := #[.int .u32 t188, .int .i64 0]) ?_ 1 _ rfl; (with_reducible repeat (first | refine blk_drewN ?_ _ | refine blk_drew ?_ | refine blk_alloc ?_ _)); refine blk_put (cs := #[.int .u32 0, .int .i64 0]) ?_ 0 _ rfl; (with_reducible repeat (first | refine blk_drewN ?_ _ | refine blk_drew ?_ | refine blk_alloc ?_ _)); exact ab.out) hb); replace HB := Aside0.mk (below_step (by repeat (first | (with_reducible first | exact HB.out | apply below_alloc | apply pw_below_drewN | apply below_drew1 | refine below_set ?_ ae.out | refine below_set ?_ ah.out) | exact HB.out)) hb); (try clear hb); (try clear ar); (try clear hk); (try clear hi)) | ((with_reducible refine gate_dst (N := 7) rfl ?_); refine box_event ?hg (N := 7) ?hd (cs := #[.int .u32 0, .int .i64 0]) (t := 24) ?hr ?_; (case hd => rfl); (case hg => rfl); (case hr => first | (go_simp; done) | (go_simp; rfl)); intro ad hg w24 hbox hb; have n0_ := Aside0.mk (ke2b2.q aa.out hb rfl); have n1_ := Aside0.mk (ke2b2.q ab.out hb rfl); have n2_ := Aside0.mk (below_step (by repeat (first | (with_reducible first | exact HB.out | apply below_alloc | apply pw_below_drewN | apply below_drew1 | refine below_set ?_ ae.out | refine below_set ?_ ah.out) | exact HB.out)) hb); have n3_ := Aside0.mk (hbox); have n4_ := Aside0.mk ((by rw [hg]; exact (below_size (by repeat (first | (with_reducible first | exact HB.out | apply below_alloc | apply pw_below_drewN | apply below_drew1 | refine below_set ?_ ae.out | refine below_set ?_ ah.out) | exact HB.out))) : w.heap.size ≤ ad)); have n5_ := Aside0.mk ((by rw [hg]; exact (below_size (by repeat (first | (with_reducible first | exact HB.out | apply below_alloc | apply pw_below_drewN | apply below_drew1 | refine below_set ?_ ae.out | refine below_set ?_ ah.out) | exact HB.out))) : w.heap.size ≤ ad)); have n6_ := Aside0.mk ((by rw [hg]; exact Nat.ne_of_lt (blk_lt (g := af) (o := .cells #[.int .u32 ai, .int .i64 aj] 24 (0, 0)) (by (with_reducible repeat (first | refine blk_drewN ?_ _ | refine blk_drew ?_ | refine blk_alloc ?_ _)); exact aa.out)) : af ≠ ad)); have n7_ := Aside0.mk ((by rw [hg]; exact Nat.ne_of_gt (blk_lt (g := af) (o := .cells #[.int .u32 ai, .int .i64 aj] 24 (0, 0)) (by (with_reducible repeat (first | refine blk_drewN ?_ _ | refine blk_drew ?_ | refine blk_alloc ?_ _)); exact aa.out)) : ad ≠ af)); have n8_ := Aside0.mk ((by rw [hg]; exact Nat.ne_of_lt (blk_lt (g := ag) (o := .cells #[.int .u32 t188, .int .i64 t189] 24 (0, 0)) (by (with_reducible repeat (first | refine blk_drewN ?_ _ | refine blk_drew ?_ | refine blk_alloc ?_ _)); exact ab.out)) : ag ≠ ad)); have n9_ := Aside0.mk ((by rw [hg]; exact Nat.ne_of_gt (blk_lt (g := ag) (o := .cells #[.int .u32 t188, .int .i64 t189] 24 (0, 0)) (by (with_reducible repeat (first | refine blk_drewN ?_ _ | refine blk_drew ?_ | refine blk_alloc ?_ _)); exact ab.out)) : ad ≠ ag)); clear aa; clear ab; clear HB; have aa := n0_; have ab := n1_; have HB := n2_; have ac := n3_; have GW195 := n4_; have an := n5_; have al := n6_; have ap := n7_; have am := n8_; have aq := n9_; clear n0_ n1_ n2_ n3_ n4_ n5_ n6_ n7_ n8_ n9_; clear hb hbox hg; have hnb25 := ap.out; have hnc25 := al.out; have hnb26 := aq.out; have hnc26 := am.out; have hcz27_0 : w24.cell? ⟨ad, 0, none⟩ = some (.int .u32 0) := (blk_cell ac.out 0).trans rfl; have hcz27_1 : w24.cell? ⟨ad, 1, none⟩ = some (.int .i64 0) := (blk_cell ac.out 1).trans rfl; have hfz27_0 := blk_frozen ac.out 0; have hfz27_1 := blk_frozen ac.out 1))
      have n0_ : Aside0 (((w24.setCell ⟨ad, 0, none⟩ (.int .u32 t192)).setCell ⟨ad, 1, none⟩ (.int .i64 t193)).heap[af]? = some (.cells #[.int .u32 ai, .int .i64 aj] 24 (0, 0))) := ⟨by (with_reducible repeat (first | refine blk_drewN ?_ _ | refine blk_drew ?_ | refine blk_alloc ?_ _)); refine blk_far ?_ al.out _; (with_reducible repeat (first | refine blk_drewN ?_ _ | refine blk_drew ?_ | refine blk_alloc ?_ _)); refine blk_far ?_ al.out _; (with_reducible repeat (first | refine blk_drewN ?_ _ | refine blk_drew ?_ | refine blk_alloc ?_ _)); exact aa.out⟩
      have n1_ : Aside0 (((w24.setCell ⟨ad, 0, none⟩ (.int .u32 t192)).setCell ⟨ad, 1, none⟩ (.int .i64 t193)).heap[ag]? = some (.cells #[.int .u32 t188, .int .i64 t189] 24 (0, 0))) := ⟨by (with_reducible repeat (first | refine blk_drewN ?_ _ | refine blk_drew ?_ | refine blk_alloc ?_ _)); refine blk_far ?_ am.out _; (with_reducible repeat (first | refine blk_drewN ?_ _ | refine blk_drew ?_ | refine blk_alloc ?_ _)); refine blk_far ?_ am.out _; (with_reducible repeat (first | refine blk_drewN ?_ _ | refine blk_drew ?_ | refine blk_alloc ?_ _)); exact ab.out⟩
      have n2_ : Aside0 (((w24.setCell ⟨ad, 0, none⟩ (.int .u32 t192)).setCell ⟨ad, 1, none⟩ (.int .i64 t193)).heap[ad]? = some (.cells #[.int .u32 t192, .int .i64 t193] 24 (0, 0))) := ⟨by (with_reducible repeat (first | refine blk_drewN ?_ _ | refine blk_drew ?_ | refine blk_alloc ?_ _)); refine blk_put (cs := #[.int .u32 t192, .int .i64 0]) ?_ 1 _ rfl; (with_reducible repeat (first | refine blk_drewN ?_ _ | refine blk_drew ?_ | refine blk_alloc ?_ _)); refine blk_put (cs := #[.int .u32 0, .int .i64 0]) ?_ 0 _ rfl; (with_reducible repeat (first | refine blk_drewN ?_ _ | refine blk_drew ?_ | refine blk_alloc ?_ _)); exact ac.out⟩
      have n3_ : Aside0 (Below w.heap.size w ((w24.setCell ⟨ad, 0, none⟩ (.int .u32 t192)).setCell ⟨ad, 1, none⟩ (.int .i64 t193))) := ⟨by repeat (first | (with_reducible first | exact HB.out | apply below_alloc | apply pw_below_drewN | apply below_drew1 | refine below_set ?_ ae.out | refine below_set ?_ ah.out | refine below_set ?_ an.out) | exact HB.out)⟩
      (try clear aa)
      (try clear ab)
      (try clear ac)
      (try clear HB)
      generalize ((w24.setCell ⟨ad, 0, none⟩ (.int .u32 t192)).setCell ⟨ad, 1, none⟩ (.int .i64 t193)) = w28 at n0_ n1_ n2_ n3_ ⊢
      have aa := n0_
      have ab := n1_
      have ac := n2_
      have HB := n3_
      clear n0_ n1_ n2_ n3_
      replace aa := Aside0.mk (blk_drew aa.out)
      replace ab := Aside0.mk (blk_drew ab.out)
      replace ac := Aside0.mk (blk_drew ac.out)
      replace HB := Aside0.mk (below_drew1 HB.out)
      refine start_ (n := 26) (S := ke2b2.S0 af ag ad (.int .u32 ai) (.int .i64 aj) (.int .u32 t188) (.int .i64 t189) (.int .u32 t192) (.int .i64 t193)) (ds := []) #[false, false, false, false, false, false, false, false, false, false, false, false, false, false, false, false, false, false, false, false, false, false, false, false, false, false] (by kernel_rfl) rfl rfl (ke2b2.b2 aa.out (ke2b2.b2 ab.out (ke2b2.b2e ac.out))) (fun hHeld => ?_); refine with_tabW whirligiglaw01_AddrTexts.tab5 whirligiglaw01_AddrTexts.bits5 (fun HT_ HW_ => ?_)
      generalize w28.drew = w29 at aa ab ac HB hHeld ⊢
      refine take_ (i := 0) (N := some 23) (v := ?_) (a' := ?_) #[true, false, false, false, false, false, false, false, false, false, false, false, false, false, false, false, false, false, false, false, false, false, false, false, false, false] rfl rfl (take_ofW HT_.out HW_.out (by kernel_rfl)) (fun _ _ _ h => h) (Or.inl ⟨by rfl, ?_⟩) hHeld ?_ ?_
      rotate_left
      ·rintro w' ⟨s0, s1, s2, s3, s4, s5⟩
       go_simp
       with_reducible rfl
      rotate_left
      ·simp only [Act.put, List.setIfInBounds_toArray, List.set_cons_zero, List.set_cons_succ, i64_w]
       rfl
      refine take_ (i := 2) (N := some 25) (v := ?_) (a' := ?_) #[true, false, true, false, false, false, false, false, false, false, false, false, false, false, false, false, false, false, false, false, false, false, false, false, false, false] rfl rfl (take_ofW HT_.out HW_.out (by kernel_rfl)) (fun _ _ _ h => h) (Or.inl ⟨by rfl, ?_⟩) hHeld ?_ ?_
      rotate_left
      ·rintro w' ⟨s0, s1, s2, s3, s4, s5⟩
       go_simp
       with_reducible rfl
      rotate_left
      ·simp only [Act.put, List.setIfInBounds_toArray, List.set_cons_zero, List.set_cons_succ, i64_w]
       rfl
      refine one_ (i := 1) (N := some 24) #[true, true, true, false, false, false, false, false, false, false, false, false, false, false, false, false, false, false, false, false, false, false, false, false, false, false] rfl rfl (one_of HT_.out (by kernel_rfl)) (by decide) (fun K hK => ?_)
      refine goes_ Tryd.func7 (by kernel_rfl) rfl #[.agg #[.int .u32 ai, .int .i64 aj]] (by rfl) rfl rfl (by (try simp only [List.map_toArray, List.map_cons, List.map_nil]); first | done | rfl) ?_
      with_reducible refine (addr_May.calls ai aj t196 _ A9.out).mono ?_
      rintro e w30 ⟨rfl, hb⟩
      refine ⟨_, rfl, ?_⟩
      replace aa := Aside0.mk (ke2b2.q aa.out hb rfl)
      replace ab := Aside0.mk (ke2b2.q ab.out hb rfl)
      replace ac := Aside0.mk (ke2b2.q ac.out hb rfl)
      replace HB := Aside0.mk (below_step (by repeat (first | (with_reducible first | exact HB.out | apply below_alloc | apply pw_below_drewN | apply below_drew1 | refine below_set ?_ ae.out | refine below_set ?_ ah.out | refine below_set ?_ an.out) | exact HB.out)) hb)
      (try clear hb)
      (try clear ar)
      (try clear hk)
      (try clear hi)
      refine hK.out _ _ (ke2b2.b2 aa.out (ke2b2.b2 ab.out (ke2b2.b2e ac.out))) (fun hHeld => ?_)
      clear hK K
      refine norm_ (a' := ?_) ?_ ?_
      rotate_left
      ·show Act.put _ (some 24) _ = _
       simp only [Act.put, List.setIfInBounds_toArray, List.set_cons_zero, List.set_cons_succ, i64_w]
       rfl
      refine one_ (i := 3) (N := some 26) #[true, true, true, true, false, false, false, false, false, false, false, false, false, false, false, false, false, false, false, false, false, false, false, false, false, false] rfl rfl (one_of HT_.out (by kernel_rfl)) (by decide) (fun K hK => ?_)
      refine goes_ Tryd.func8 (by kernel_rfl) rfl #[.agg #[.int .u32 ai, .int .i64 aj]] (by rfl) rfl rfl (by (try simp only [List.map_toArray, List.map_cons, List.map_nil]); first | done | rfl) ?_
      with_reducible refine (whirligigref01_May.calls k ai aj t197 _ A10.out).mono ?_
      rintro e w31 ⟨rfl, hb⟩
      refine ⟨_, rfl, ?_⟩
      replace aa := Aside0.mk (ke2b2.q aa.out hb rfl)
      replace ab := Aside0.mk (ke2b2.q ab.out hb rfl)
      replace ac := Aside0.mk (ke2b2.q ac.out hb rfl)
      replace HB := Aside0.mk (below_step (by repeat (first | (with_reducible first | exact HB.out | apply below_alloc | apply pw_below_drewN | apply below_drew1 | refine below_set ?_ ae.out | refine below_set ?_ ah.out | refine below_set ?_ an.out) | exact HB.out)) hb)
      (try clear hb)
      (try clear ar)
      (try clear hk)
      (try clear hi)
      refine hK.out _ _ (ke2b2.b2 aa.out (ke2b2.b2 ab.out (ke2b2.b2e ac.out))) (fun hHeld => ?_)
      clear hK K
      refine norm_ (a' := ?_) ?_ ?_
      rotate_left
      ·show Act.put _ (some 26) _ = _
       simp only [Act.put, List.setIfInBounds_toArray, List.set_cons_zero, List.set_cons_succ, i64_w]
       rfl
      refine pure_ (i := 4) (N := some 27) (v := ?_) (a' := ?_) #[true, true, true, true, true, false, false, false, false, false, false, false, false, false, false, false, false, false, false, false, false, false, false, false, false, false] rfl rfl (any_of HT_.out (by kernel_rfl)) (fun _ _ _ h => h) (Or.inl ⟨by rfl, ?_⟩) ?_ ?_
      rotate_left
      ·intro w'
       go_simp
       with_reducible rfl
      rotate_left
      ·simp only [Act.put, List.setIfInBounds_toArray, List.set_cons_zero, List.set_cons_succ, i64_w]
       rfl
      refine pure_ (i := 5) (N := some 28) (v := ?_) (a' := ?_) #[true, true, true, true, true, true, false, false, false, false, false, false, false, false, false, false, false, false, false, false, false, false, false, false, false, false] rfl rfl (any_of HT_.out (by kernel_rfl)) (fun _ _ _ h => h) (Or.inl ⟨by rfl, ?_⟩) ?_ ?_
      rotate_left
      ·intro w'
       go_simp
       with_reducible rfl
      rotate_left
      ·simp only [Act.put, List.setIfInBounds_toArray, List.set_cons_zero, List.set_cons_succ, i64_w]
       rfl
      refine take_ (i := 6) (N := some 29) (v := ?_) (a' := ?_) #[true, true, true, true, true, true, true, false, false, false, false, false, false, false, false, false, false, false, false, false, false, false, false, false, false, false] rfl rfl (take_ofW HT_.out HW_.out (by kernel_rfl)) (fun _ _ _ h => h) (Or.inl ⟨by rfl, ?_⟩) hHeld ?_ ?_
      rotate_left
      ·rintro w' ⟨s0, s1, s2, s3, s4, s5⟩
       go_simp
       with_reducible rfl
      rotate_left
      ·simp only [Act.put, List.setIfInBounds_toArray, List.set_cons_zero, List.set_cons_succ, i64_w]
       rfl
      refine take_ (i := 8) (N := some 31) (v := ?_) (a' := ?_) #[true, true, true, true, true, true, true, false, true, false, false, false, false, false, false, false, false, false, false, false, false, false, false, false, false, false] rfl rfl (take_ofW HT_.out HW_.out (by kernel_rfl)) (fun _ _ _ h => h) (Or.inl ⟨by rfl, ?_⟩) hHeld ?_ ?_
      rotate_left
      ·rintro w' ⟨s0, s1, s2, s3, s4, s5⟩
       go_simp
       with_reducible rfl
      rotate_left
      ·simp only [Act.put, List.setIfInBounds_toArray, List.set_cons_zero, List.set_cons_succ, i64_w]
       rfl
      refine one_ (i := 7) (N := some 30) #[true, true, true, true, true, true, true, true, true, false, false, false, false, false, false, false, false, false, false, false, false, false, false, false, false, false] rfl rfl (one_of HT_.out (by kernel_rfl)) (by decide) (fun K hK => ?_)
      refine goes_ Tryd.func9 (by kernel_rfl) rfl #[.agg #[.int .u32 ai, .int .i64 aj]] (by rfl) rfl rfl (by (try simp only [List.map_toArray, List.map_cons, List.map_nil]); first | done | rfl) ?_
      with_reducible refine (addr_Text.calls k ai aj t198 _ A12.out).mono ?_
      rintro e w32 ⟨rfl, hb⟩
      refine ⟨_, rfl, ?_⟩
      replace aa := Aside0.mk (ke2b2.q aa.out hb rfl)
      replace ab := Aside0.mk (ke2b2.q ab.out hb rfl)
      replace ac := Aside0.mk (ke2b2.q ac.out hb rfl)
      replace HB := Aside0.mk (below_step (by repeat (first | (with_reducible first | exact HB.out | apply below_alloc | apply pw_below_drewN | apply below_drew1 | refine below_set ?_ ae.out | refine below_set ?_ ah.out | refine below_set ?_ an.out) | exact HB.out)) hb)
      (try clear hb)
      (try clear ar)
      (try clear hk)
      (try clear hi)
      refine hK.out _ _ (ke2b2.b2 aa.out (ke2b2.b2 ab.out (ke2b2.b2e ac.out))) (fun hHeld => ?_)
      clear hK K
      refine norm_ (a' := ?_) ?_ ?_
      rotate_left
      ·show Act.put _ (some 30) _ = _
       simp only [Act.put, List.setIfInBounds_toArray, List.set_cons_zero, List.set_cons_succ, i64_w]
       rfl
      refine one_ (i := 9) (N := some 32) #[true, true, true, true, true, true, true, true, true, true, false, false, false, false, false, false, false, false, false, false, false, false, false, false, false, false] rfl rfl (one_of HT_.out (by kernel_rfl)) (by decide) (fun K hK => ?_)
      refine goes_ Tryd.func10 (by kernel_rfl) rfl #[.agg #[.int .u32 ai, .int .i64 aj]] (by rfl) rfl rfl (by (try simp only [List.map_toArray, List.map_cons, List.map_nil]); first | done | rfl) ?_
      with_reducible refine (whirligigref01_Text.calls k ai aj t199 _ A13.out).mono ?_
      rintro e w33 ⟨rfl, hb⟩
      refine ⟨_, rfl, ?_⟩
      replace aa := Aside0.mk (ke2b2.q aa.out hb rfl)
      replace ab := Aside0.mk (ke2b2.q ab.out hb rfl)
      replace ac := Aside0.mk (ke2b2.q ac.out hb rfl)
      replace HB := Aside0.mk (below_step (by repeat (first | (with_reducible first | exact HB.out | apply below_alloc | apply pw_below_drewN | apply below_drew1 | refine below_set ?_ ae.out | refine below_set ?_ ah.out | refine below_set ?_ an.out) | exact HB.out)) hb)
      (try clear hb)
      (try clear ar)
      (try clear hk)
      (try clear hi)
      refine hK.out _ _ (ke2b2.b2 aa.out (ke2b2.b2 ab.out (ke2b2.b2e ac.out))) (fun hHeld => ?_)
      clear hK K
      refine norm_ (a' := ?_) ?_ ?_
      rotate_left
      ·show Act.put _ (some 32) _ = _
       simp only [Act.put, List.setIfInBounds_toArray, List.set_cons_zero, List.set_cons_succ, i64_w]
       rfl
      refine pure_ (i := 10) (N := some 33) (v := ?_) (a' := ?_) #[true, true, true, true, true, true, true, true, true, true, true, false, false, false, false, false, false, false, false, false, false, false, false, false, false, false] rfl rfl (any_of HT_.out (by kernel_rfl)) (fun _ _ _ h => h) (Or.inl ⟨by rfl, ?_⟩) ?_ ?_
      rotate_left
      ·intro w'
       go_simp
       with_reducible rfl
      rotate_left
      ·simp only [Act.put, List.setIfInBounds_toArray, List.set_cons_zero, List.set_cons_succ, i64_w]
       rfl
      refine pure_ (i := 11) (N := some 34) (v := ?_) (a' := ?_) #[true, true, true, true, true, true, true, true, true, true, true, true, false, false, false, false, false, false, false, false, false, false, false, false, false, false] rfl rfl (any_of HT_.out (by kernel_rfl)) (fun _ _ _ h => h) (Or.inl ⟨by rfl, ?_⟩) ?_ ?_
      rotate_left
      ·intro w'
       go_simp
       with_reducible rfl
      rotate_left
      ·simp only [Act.put, List.setIfInBounds_toArray, List.set_cons_zero, List.set_cons_succ, i64_w]
       rfl
      refine pure_ (i := 12) (N := some 35) (v := ?_) (a' := ?_) #[true, true, true, true, true, true, true, true, true, true, true, true, true, false, false, false, false, false, false, false, false, false, false, false, false, false] rfl rfl (any_of HT_.out (by kernel_rfl)) (fun _ _ _ h => h) (Or.inl ⟨by rfl, ?_⟩) ?_ ?_
      rotate_left
      ·intro w'
       go_simp
       with_reducible rfl
      rotate_left
      ·simp only [Act.put, List.setIfInBounds_toArray, List.set_cons_zero, List.set_cons_succ, i64_w]
       rfl
      refine take_ (i := 13) (N := some 36) (v := ?_) (a' := ?_) #[true, true, true, true, true, true, true, true, true, true, true, true, true, true, false, false, false, false, false, false, false, false, false, false, false, false] rfl rfl (take_ofW HT_.out HW_.out (by kernel_rfl)) (fun _ _ _ h => h) (Or.inl ⟨by rfl, ?_⟩) hHeld ?_ ?_
      rotate_left
      ·rintro w' ⟨s0, s1, s2, s3, s4, s5⟩
       go_simp
       with_reducible rfl
      rotate_left
      ·simp only [Act.put, List.setIfInBounds_toArray, List.set_cons_zero, List.set_cons_succ, i64_w]
       rfl
      refine take_ (i := 14) (N := some 37) (v := ?_) (a' := ?_) #[true, true, true, true, true, true, true, true, true, true, true, true, true, true, true, false, false, false, false, false, false, false, false, false, false, false] rfl rfl (take_ofW HT_.out HW_.out (by kernel_rfl)) (fun _ _ _ h => h) (Or.inl ⟨by rfl, ?_⟩) hHeld ?_ ?_
      rotate_left
      ·rintro w' ⟨s0, s1, s2, s3, s4, s5⟩
       go_simp
       with_reducible rfl
      rotate_left
      ·simp only [Act.put, List.setIfInBounds_toArray, List.set_cons_zero, List.set_cons_succ, i64_w]
       rfl
      refine pure_ (i := 15) (N := some 38) (v := ?_) (a' := ?_) #[true, true, true, true, true, true, true, true, true, true, true, true, true, true, true, true, false, false, false, false, false, false, false, false, false, false] rfl rfl (any_of HT_.out (by kernel_rfl)) (fun _ _ _ h => h) (Or.inl ⟨by rfl, ?_⟩) ?_ ?_
      rotate_left
      ·intro w'
       go_simp
       with_reducible rfl
      rotate_left
      ·simp only [Act.put, List.setIfInBounds_toArray, List.set_cons_zero, List.set_cons_succ, i64_w]
       rfl
      refine pure_ (i := 16) (N := some 39) (v := ?_) (a' := ?_) #[true, true, true, true, true, true, true, true, true, true, true, true, true, true, true, true, true, false, false, false, false, false, false, false, false, false] rfl rfl (any_of HT_.out (by kernel_rfl)) (fun _ _ _ h => h) (Or.inl ⟨by rfl, ?_⟩) ?_ ?_
      rotate_left
      ·intro w'
       go_simp
       with_reducible rfl
      rotate_left
      ·simp only [Act.put, List.setIfInBounds_toArray, List.set_cons_zero, List.set_cons_succ, i64_w]
       rfl
      refine pure_ (i := 17) (N := some 40) (v := ?_) (a' := ?_) #[true, true, true, true, true, true, true, true, true, true, true, true, true, true, true, true, true, true, false, false, false, false, false, false, false, false] rfl rfl (any_of HT_.out (by kernel_rfl)) (fun _ _ _ h => h) (Or.inl ⟨by rfl, ?_⟩) ?_ ?_
      rotate_left
      ·intro w'
       go_simp
       with_reducible rfl
      rotate_left
      ·simp only [Act.put, List.setIfInBounds_toArray, List.set_cons_zero, List.set_cons_succ, i64_w]
       rfl
      refine pure_ (i := 18) (N := some 41) (v := ?_) (a' := ?_) #[true, true, true, true, true, true, true, true, true, true, true, true, true, true, true, true, true, true, true, false, false, false, false, false, false, false] rfl rfl (any_of HT_.out (by kernel_rfl)) (fun _ _ _ h => h) (Or.inl ⟨by rfl, ?_⟩) ?_ ?_
      rotate_left
      ·intro w'
       go_simp
       with_reducible rfl
      rotate_left
      ·simp only [Act.put, List.setIfInBounds_toArray, List.set_cons_zero, List.set_cons_succ, i64_w]
       rfl
      refine pure_ (i := 19) (N := some 42) (v := ?_) (a' := ?_) #[true, true, true, true, true, true, true, true, true, true, true, true, true, true, true, true, true, true, true, true, false, false, false, false, false, false] rfl rfl (any_of HT_.out (by kernel_rfl)) (fun _ _ _ h => h) (Or.inl ⟨by rfl, ?_⟩) ?_ ?_
      rotate_left
      ·intro w'
       go_simp
       with_reducible rfl
      rotate_left
      ·simp only [Act.put, List.setIfInBounds_toArray, List.set_cons_zero, List.set_cons_succ, i64_w]
       rfl
      refine pure_ (i := 20) (N := some 43) (v := ?_) (a' := ?_) #[true, true, true, true, true, true, true, true, true, true, true, true, true, true, true, true, true, true, true, true, true, false, false, false, false, false] rfl rfl (any_of HT_.out (by kernel_rfl)) (fun _ _ _ h => h) (Or.inl ⟨by rfl, ?_⟩) ?_ ?_
      rotate_left
      ·intro w'
       go_simp
       with_reducible rfl
      rotate_left
      ·simp only [Act.put, List.setIfInBounds_toArray, List.set_cons_zero, List.set_cons_succ, i64_w]
       rfl
      refine pure_ (i := 21) (N := some 44) (v := ?_) (a' := ?_) #[true, true, true, true, true, true, true, true, true, true, true, true, true, true, true, true, true, true, true, true, true, true, false, false, false, false] rfl rfl (any_of HT_.out (by kernel_rfl)) (fun _ _ _ h => h) (Or.inl ⟨by rfl, ?_⟩) ?_ ?_
      rotate_left
      ·intro w'
       go_simp
       with_reducible rfl
      rotate_left
      ·simp only [Act.put, List.setIfInBounds_toArray, List.set_cons_zero, List.set_cons_succ, i64_w]
       rfl
      refine pure_ (i := 22) (N := some 45) (v := ?_) (a' := ?_) #[true, true, true, true, true, true, true, true, true, true, true, true, true, true, true, true, true, true, true, true, true, true, true, false, false, false] rfl rfl (any_of HT_.out (by kernel_rfl)) (fun _ _ _ h => h) (Or.inl ⟨by rfl, ?_⟩) ?_ ?_
      rotate_left
      ·intro w'
       go_simp
       with_reducible rfl
      rotate_left
      ·simp only [Act.put, List.setIfInBounds_toArray, List.set_cons_zero, List.set_cons_succ, i64_w]
       rfl
      refine one_ (i := 23) (N := some 46) #[true, true, true, true, true, true, true, true, true, true, true, true, true, true, true, true, true, true, true, true, true, true, true, true, false, false] rfl rfl (one_of HT_.out (by kernel_rfl)) (by decide) (fun K hK => ?_)
      refine goes_ Tryd.func4 (by kernel_rfl) rfl #[] (by rfl) rfl rfl (by (try simp only [List.map_toArray, List.map_cons, List.map_nil]); first | done | rfl) ?_
      with_reducible refine (whirligiglaw01_lives.calls k  t200 _ A17.out).mono ?_
      rintro e w34 ⟨rfl, hb⟩
      refine ⟨_, rfl, ?_⟩
      replace aa := Aside0.mk (ke2b2.q aa.out hb rfl)
      replace ab := Aside0.mk (ke2b2.q ab.out hb rfl)
      replace ac := Aside0.mk (ke2b2.q ac.out hb rfl)
      replace HB := Aside0.mk (below_step (by repeat (first | (with_reducible first | exact HB.out | apply below_alloc | apply pw_below_drewN | apply below_drew1 | refine below_set ?_ ae.out | refine below_set ?_ ah.out | refine below_set ?_ an.out) | exact HB.out)) hb)
      (try clear hb)
      (try clear ar)
      (try clear hk)
      (try clear hi)
      refine hK.out _ _ (ke2b2.b2 aa.out (ke2b2.b2 ab.out (ke2b2.b2e ac.out))) (fun hHeld => ?_)
      clear hK K
      refine norm_ (a' := ?_) ?_ ?_
      rotate_left
      ·show Act.put _ (some 46) _ = _
       simp only [Act.put, List.setIfInBounds_toArray, List.set_cons_zero, List.set_cons_succ, i64_w]
       rfl
      refine pure_ (i := 24) (N := some 47) (v := ?_) (a' := ?_) #[true, true, true, true, true, true, true, true, true, true, true, true, true, true, true, true, true, true, true, true, true, true, true, true, true, false] rfl rfl (any_of HT_.out (by kernel_rfl)) (fun _ _ _ h => h) (Or.inl ⟨by rfl, ?_⟩) ?_ ?_
      rotate_left
      ·intro w'
       go_simp
       with_reducible rfl
      rotate_left
      ·simp only [Act.put, List.setIfInBounds_toArray, List.set_cons_zero, List.set_cons_succ, i64_w]
       rfl
      refine pure_ (i := 25) (N := some 4) (v := ?_) (a' := ?_) #[true, true, true, true, true, true, true, true, true, true, true, true, true, true, true, true, true, true, true, true, true, true, true, true, true, true] rfl rfl (any_of HT_.out (by kernel_rfl)) (fun _ _ _ h => h) (Or.inl ⟨by rfl, ?_⟩) ?_ ?_
      rotate_left
      ·intro w'
       go_simp
       with_reducible rfl
      rotate_left
      ·simp only [Act.put, List.setIfInBounds_toArray, List.set_cons_zero, List.set_cons_succ, i64_w]
       rfl
      refine done_ (done_of HT_.out (by kernel_rfl)) ?_
      try go_wp2
      go_ret
      exact ⟨by first | rfl | (simp [errW_none, errW_some] <;> rfl) | (simp [*, errW_none, errW_some] <;> rfl), by repeat (first | (with_reducible first | exact HB.out | apply below_alloc | apply pw_below_drewN | apply below_drew1 | refine below_set ?_ ae.out | refine below_set ?_ ah.out | refine below_set ?_ an.out) | exact HB.out)⟩
     ·rw [if_neg c16] at H
      have c16b0 : (t190 == t194) = false := beq_eq_false_iff_ne.mpr c16
      have c16b1 : (t190 != t194) = true := bne_iff_ne.mpr c16
      obtain rfl := Option.some.inj H
      go_enter Tryd.func3, Tryd.ntmps3
      try go_wp2_with (first | ((with_reducible refine gate_dst (N := 2) rfl ?_); refine box_event ?hg (N := 2) ?hd (cs := #[.int .u32 ai, .int .i64 aj]) (t := 24) ?hr ?_; (case hd => rfl); (case hg => rfl); (case hr => first | (go_simp; done) | (go_simp; rfl)); intro af hg w35 hbox hb; have n0_ := Aside0.mk (ke2b2.z HB.out hb rfl rfl rfl rfl); have n1_ := Aside0.mk (hbox); have n2_ := Aside0.mk ((by rw [hg]; exact (below_size (by repeat (first | (with_reducible first | exact HB.out | apply below_alloc | apply pw_below_drewN | apply below_drew1) | exact HB.out))) : w.heap.size ≤ af)); have n3_ := Aside0.mk ((by rw [hg]; exact (below_size (by repeat (first | (with_reducible first | exact HB.out | apply below_alloc | apply pw_below_drewN | apply below_drew1) | exact HB.out))) : w.heap.size ≤ af)); clear HB; have HB := n0_; have aa := n1_; have GW186 := n2_; have ae := n3_; clear n0_ n1_ n2_ n3_; clear hb hbox hg) | ((with_reducible refine gate_callee (f := 5) rfl ?_); refine goesL_ (some 15) rfl rfl Tryd.func5 (by kernel_rfl) rfl #[.string a1] rfl (by (try simp only [List.map_toArray, List.map_cons, List.map_nil]); first | done | rfl) ?_; (with_reducible refine (addr_Parse.calls k a1 t188 t189 t190 _ A7.out).mono ?_); rintro e w36 ⟨rfl, hb⟩; refine ⟨_, rfl, ?_⟩; replace aa := Aside0.mk (ke2b2.q aa.out hb rfl); replace HB := Aside0.mk (below_step (by repeat (first | (with_reducible first | exact HB.out | apply below_alloc | apply pw_below_drewN | apply below_drew1 | refine below_set ?_ ae.out) | exact HB.out)) hb); (try clear hb); (try clear ar); (try clear hk); (try clear hi)) | ((with_reducible refine gate_dst (N := 5) rfl ?_); refine box_event ?hg (N := 5) ?hd (cs := #[.int .u32 0, .int .i64 0]) (t := 24) ?hr ?_; (case hd => rfl); (case hg => rfl); (case hr => first | (go_simp; done) | (go_simp; rfl)); intro ag hg w37 hbox hb; have n0_ := Aside0.mk (ke2b2.q aa.out hb rfl); have n1_ := Aside0.mk (below_step (by repeat (first | (with_reducible first | exact HB.out | apply below_alloc | apply pw_below_drewN | apply below_drew1 | refine below_set ?_ ae.out) | exact HB.out)) hb); have n2_ := Aside0.mk (hbox); have n3_ := Aside0.mk ((by rw [hg]; exact (below_size (by repeat (first | (with_reducible first | exact HB.out | apply below_alloc | apply pw_below_drewN | apply below_drew1 | refine below_set ?_ ae.out) | exact HB.out))) : w.heap.size ≤ ag)); have n4_ := Aside0.mk ((by rw [hg]; exact (below_size (by repeat (first | (with_reducible first | exact HB.out | apply below_alloc | apply pw_below_drewN | apply below_drew1 | refine below_set ?_ ae.out) | exact HB.out))) : w.heap.size ≤ ag)); have n5_ := Aside0.mk ((by rw [hg]; exact Nat.ne_of_lt (blk_lt (g := af) (o := .cells #[.int .u32 ai, .int .i64 aj] 24 (0, 0)) (by (with_reducible repeat (first | refine blk_drewN ?_ _ | refine blk_drew ?_ | refine blk_alloc ?_ _)); exact aa.out)) : af ≠ ag)); have n6_ := Aside0.mk ((by rw [hg]; exact Nat.ne_of_gt (blk_lt (g := af) (o := .cells #[.int .u32 ai, .int .i64 aj] 24 (0, 0)) (by (with_reducible repeat (first | refine blk_drewN ?_ _ | refine blk_drew ?_ | refine blk_alloc ?_ _)); exact aa.out)) : ag ≠ af)); clear aa; clear HB; have aa := n0_; have HB := n1_; have ab := n2_; have GW191 := n3_; have ah := n4_; have ak := n5_; have ao := n6_; clear n0_ n1_ n2_ n3_ n4_ n5_ n6_; clear hb hbox hg; have hnb38 := ao.out; have hnc38 := ak.out; have hcz39_0 : w37.cell? ⟨ag, 0, none⟩ = some (.int .u32 0) := (blk_cell ab.out 0).trans rfl; have hcz39_1 : w37.cell? ⟨ag, 1, none⟩ = some (.int .i64 0) := (blk_cell ab.out 1).trans rfl; have hfz39_0 := blk_frozen ab.out 0; have hfz39_1 := blk_frozen ab.out 1) | ((with_reducible refine gate_callee (f := 6) rfl ?_); refine goesL_ (some 20) rfl rfl Tryd.func6 (by kernel_rfl) rfl #[.string a1] rfl (by (try simp only [List.map_toArray, List.map_cons, List.map_nil]); first | done | rfl) ?_; (with_reducible refine (whirligigref01_Parse.calls k a1 t192 t193 t194 _ A8.out).mono ?_); rintro e w40 ⟨rfl, hb⟩; refine ⟨_, rfl, ?_⟩; replace aa := Aside0.mk (blk_below (g := af) (o := .cells #[.int .u32 ai, .int .i64 aj] 24 (0, 0)) (by (with_reducible repeat (first | refine blk_drewN ?_ _ | refine blk_drew ?_ | refine blk_alloc ?_ _)); refine blk_far ?_ ak.out _; (with_reducible repeat (first | refine blk_drewN ?_ _ | refine blk_drew ?_ | refine blk_alloc ?_ _)); refine blk_far ?_ ak.out _; (with_reducible repeat (first | refine blk_drewN ?_ _ | refine blk_drew ?_ | refine blk_alloc ?_ _)); exact aa.out) hb); replace ab := Aside0.mk (blk_below (g := ag) (o := .cells #[.int .u32 t188, .int .i64 t189] 24 (0, 0)) (by (with_reducible repeat (first | refine blk_drewN ?_ _ | refine blk_drew ?_ | refine blk_alloc ?_ _)); refine blk_put (cs := #[.int .u32 t188, .int .i64 0]) ?_ 1 _ rfl; (with_reducible repeat (first | refine blk_drewN ?_ _ | refine blk_drew ?_ | refine blk_alloc ?_ _)); refine blk_put (cs := #[.int .u32 0, .int .i64 0]) ?_ 0 _ rfl; (with_reducible repeat (first | refine blk_drewN ?_ _ | refine blk_drew ?_ | refine blk_alloc ?_ _)); exact ab.out) hb); replace HB := Aside0.mk (below_step (by repeat (first | (with_reducible first | exact HB.out | apply below_alloc | apply pw_below_drewN | apply below_drew1 | refine below_set ?_ ae.out | refine below_set ?_ ah.out) | exact HB.out)) hb); (try clear hb); (try clear ar); (try clear hk); (try clear hi)) | ((with_reducible refine gate_dst (N := 7) rfl ?_); refine box_event ?hg (N := 7) ?hd (cs := #[.int .u32 0, .int .i64 0]) (t := 24) ?hr ?_; (case hd => rfl); (case hg => rfl); (case hr => first | (go_simp; done) | (go_simp; rfl)); intro ad hg w41 hbox hb; have n0_ := Aside0.mk (ke2b2.q aa.out hb rfl); have n1_ := Aside0.mk (ke2b2.q ab.out hb rfl); have n2_ := Aside0.mk (below_step (by repeat (first | (with_reducible first | exact HB.out | apply below_alloc | apply pw_below_drewN | apply below_drew1 | refine below_set ?_ ae.out | refine below_set ?_ ah.out) | exact HB.out)) hb); have n3_ := Aside0.mk (hbox); have n4_ := Aside0.mk ((by rw [hg]; exact (below_size (by repeat (first | (with_reducible first | exact HB.out | apply below_alloc | apply pw_below_drewN | apply below_drew1 | refine below_set ?_ ae.out | refine below_set ?_ ah.out) | exact HB.out))) : w.heap.size ≤ ad)); have n5_ := Aside0.mk ((by rw [hg]; exact (below_size (by repeat (first | (with_reducible first | exact HB.out | apply below_alloc | apply pw_below_drewN | apply below_drew1 | refine below_set ?_ ae.out | refine below_set ?_ ah.out) | exact HB.out))) : w.heap.size ≤ ad)); have n6_ := Aside0.mk ((by rw [hg]; exact Nat.ne_of_lt (blk_lt (g := af) (o := .cells #[.int .u32 ai, .int .i64 aj] 24 (0, 0)) (by (with_reducible repeat (first | refine blk_drewN ?_ _ | refine blk_drew ?_ | refine blk_alloc ?_ _)); exact aa.out)) : af ≠ ad)); have n7_ := Aside0.mk ((by rw [hg]; exact Nat.ne_of_gt (blk_lt (g := af) (o := .cells #[.int .u32 ai, .int .i64 aj] 24 (0, 0)) (by (with_reducible repeat (first | refine blk_drewN ?_ _ | refine blk_drew ?_ | refine blk_alloc ?_ _)); exact aa.out)) : ad ≠ af)); have n8_ := Aside0.mk ((by rw [hg]; exact Nat.ne_of_lt (blk_lt (g := ag) (o := .cells #[.int .u32 t188, .int .i64 t189] 24 (0, 0)) (by (with_reducible repeat (first | refine blk_drewN ?_ _ | refine blk_drew ?_ | refine blk_alloc ?_ _)); exact ab.out)) : ag ≠ ad)); have n9_ := Aside0.mk ((by rw [hg]; exact Nat.ne_of_gt (blk_lt (g := ag) (o := .cells #[.int .u32 t188, .int .i64 t189] 24 (0, 0)) (by (with_reducible repeat (first | refine blk_drewN ?_ _ | refine blk_drew ?_ | refine blk_alloc ?_ _)); exact ab.out)) : ad ≠ ag)); clear aa; clear ab; clear HB; have aa := n0_; have ab := n1_; have HB := n2_; have ac := n3_; have GW195 := n4_; have an := n5_; have al := n6_; have ap := n7_; have am := n8_; have aq := n9_; clear n0_ n1_ n2_ n3_ n4_ n5_ n6_ n7_ n8_ n9_; clear hb hbox hg; have hnb42 := ap.out; have hnc42 := al.out; have hnb43 := aq.out; have hnc43 := am.out; have hcz44_0 : w41.cell? ⟨ad, 0, none⟩ = some (.int .u32 0) := (blk_cell ac.out 0).trans rfl; have hcz44_1 : w41.cell? ⟨ad, 1, none⟩ = some (.int .i64 0) := (blk_cell ac.out 1).trans rfl; have hfz44_0 := blk_frozen ac.out 0; have hfz44_1 := blk_frozen ac.out 1))
      have n0_ : Aside0 (((w41.setCell ⟨ad, 0, none⟩ (.int .u32 t192)).setCell ⟨ad, 1, none⟩ (.int .i64 t193)).heap[af]? = some (.cells #[.int .u32 ai, .int .i64 aj] 24 (0, 0))) := ⟨by (with_reducible repeat (first | refine blk_drewN ?_ _ | refine blk_drew ?_ | refine blk_alloc ?_ _)); refine blk_far ?_ al.out _; (with_reducible repeat (first | refine blk_drewN ?_ _ | refine blk_drew ?_ | refine blk_alloc ?_ _)); refine blk_far ?_ al.out _; (with_reducible repeat (first | refine blk_drewN ?_ _ | refine blk_drew ?_ | refine blk_alloc ?_ _)); exact aa.out⟩
      have n1_ : Aside0 (((w41.setCell ⟨ad, 0, none⟩ (.int .u32 t192)).setCell ⟨ad, 1, none⟩ (.int .i64 t193)).heap[ag]? = some (.cells #[.int .u32 t188, .int .i64 t189] 24 (0, 0))) := ⟨by (with_reducible repeat (first | refine blk_drewN ?_ _ | refine blk_drew ?_ | refine blk_alloc ?_ _)); refine blk_far ?_ am.out _; (with_reducible repeat (first | refine blk_drewN ?_ _ | refine blk_drew ?_ | refine blk_alloc ?_ _)); refine blk_far ?_ am.out _; (with_reducible repeat (first | refine blk_drewN ?_ _ | refine blk_drew ?_ | refine blk_alloc ?_ _)); exact ab.out⟩
      have n2_ : Aside0 (((w41.setCell ⟨ad, 0, none⟩ (.int .u32 t192)).setCell ⟨ad, 1, none⟩ (.int .i64 t193)).heap[ad]? = some (.cells #[.int .u32 t192, .int .i64 t193] 24 (0, 0))) := ⟨by (with_reducible repeat (first | refine blk_drewN ?_ _ | refine blk_drew ?_ | refine blk_alloc ?_ _)); refine blk_put (cs := #[.int .u32 t192, .int .i64 0]) ?_ 1 _ rfl; (with_reducible repeat (first | refine blk_drewN ?_ _ | refine blk_drew ?_ | refine blk_alloc ?_ _)); refine blk_put (cs := #[.int .u32 0, .int .i64 0]) ?_ 0 _ rfl; (with_reducible repeat (first | refine blk_drewN ?_ _ | refine blk_drew ?_ | refine blk_alloc ?_ _)); exact ac.out⟩
      have n3_ : Aside0 (Below w.heap.size w ((w41.setCell ⟨ad, 0, none⟩ (.int .u32 t192)).setCell ⟨ad, 1, none⟩ (.int .i64 t193))) := ⟨by repeat (first | (with_reducible first | exact HB.out | apply below_alloc | apply pw_below_drewN | apply below_drew1 | refine below_set ?_ ae.out | refine below_set ?_ ah.out | refine below_set ?_ an.out) | exact HB.out)⟩
      (try clear aa)
      (try clear ab)
      (try clear ac)
      (try clear HB)
      generalize ((w41.setCell ⟨ad, 0, none⟩ (.int .u32 t192)).setCell ⟨ad, 1, none⟩ (.int .i64 t193)) = w45 at n0_ n1_ n2_ n3_ ⊢
      have aa := n0_
      have ab := n1_
      have ac := n2_
      have HB := n3_
      clear n0_ n1_ n2_ n3_
      replace aa := Aside0.mk (blk_drew aa.out)
      replace ab := Aside0.mk (blk_drew ab.out)
      replace ac := Aside0.mk (blk_drew ac.out)
      replace HB := Aside0.mk (below_drew1 HB.out)
      refine start_ (n := 26) (S := ke2b2.S0 af ag ad (.int .u32 ai) (.int .i64 aj) (.int .u32 t188) (.int .i64 t189) (.int .u32 t192) (.int .i64 t193)) (ds := []) #[false, false, false, false, false, false, false, false, false, false, false, false, false, false, false, false, false, false, false, false, false, false, false, false, false, false] (by kernel_rfl) rfl rfl (ke2b2.b2 aa.out (ke2b2.b2 ab.out (ke2b2.b2e ac.out))) (fun hHeld => ?_); refine with_tabW whirligiglaw01_AddrTexts.tab5 whirligiglaw01_AddrTexts.bits5 (fun HT_ HW_ => ?_)
      generalize w45.drew = w46 at aa ab ac HB hHeld ⊢
      refine take_ (i := 0) (N := some 23) (v := ?_) (a' := ?_) #[true, false, false, false, false, false, false, false, false, false, false, false, false, false, false, false, false, false, false, false, false, false, false, false, false, false] rfl rfl (take_ofW HT_.out HW_.out (by kernel_rfl)) (fun _ _ _ h => h) (Or.inl ⟨by rfl, ?_⟩) hHeld ?_ ?_
      rotate_left
      ·rintro w' ⟨s0, s1, s2, s3, s4, s5⟩
       go_simp
       with_reducible rfl
      rotate_left
      ·simp only [Act.put, List.setIfInBounds_toArray, List.set_cons_zero, List.set_cons_succ, i64_w]
       rfl
      refine take_ (i := 2) (N := some 25) (v := ?_) (a' := ?_) #[true, false, true, false, false, false, false, false, false, false, false, false, false, false, false, false, false, false, false, false, false, false, false, false, false, false] rfl rfl (take_ofW HT_.out HW_.out (by kernel_rfl)) (fun _ _ _ h => h) (Or.inl ⟨by rfl, ?_⟩) hHeld ?_ ?_
      rotate_left
      ·rintro w' ⟨s0, s1, s2, s3, s4, s5⟩
       go_simp
       with_reducible rfl
      rotate_left
      ·simp only [Act.put, List.setIfInBounds_toArray, List.set_cons_zero, List.set_cons_succ, i64_w]
       rfl
      refine one_ (i := 1) (N := some 24) #[true, true, true, false, false, false, false, false, false, false, false, false, false, false, false, false, false, false, false, false, false, false, false, false, false, false] rfl rfl (one_of HT_.out (by kernel_rfl)) (by decide) (fun K hK => ?_)
      refine goes_ Tryd.func7 (by kernel_rfl) rfl #[.agg #[.int .u32 ai, .int .i64 aj]] (by rfl) rfl rfl (by (try simp only [List.map_toArray, List.map_cons, List.map_nil]); first | done | rfl) ?_
      with_reducible refine (addr_May.calls ai aj t196 _ A9.out).mono ?_
      rintro e w47 ⟨rfl, hb⟩
      refine ⟨_, rfl, ?_⟩
      replace aa := Aside0.mk (ke2b2.q aa.out hb rfl)
      replace ab := Aside0.mk (ke2b2.q ab.out hb rfl)
      replace ac := Aside0.mk (ke2b2.q ac.out hb rfl)
      replace HB := Aside0.mk (below_step (by repeat (first | (with_reducible first | exact HB.out | apply below_alloc | apply pw_below_drewN | apply below_drew1 | refine below_set ?_ ae.out | refine below_set ?_ ah.out | refine below_set ?_ an.out) | exact HB.out)) hb)
      (try clear hb)
      (try clear ar)
      (try clear hk)
      (try clear hi)
      refine hK.out _ _ (ke2b2.b2 aa.out (ke2b2.b2 ab.out (ke2b2.b2e ac.out))) (fun hHeld => ?_)
      clear hK K
      refine norm_ (a' := ?_) ?_ ?_
      rotate_left
      ·show Act.put _ (some 24) _ = _
       simp only [Act.put, List.setIfInBounds_toArray, List.set_cons_zero, List.set_cons_succ, i64_w]
       rfl
      refine one_ (i := 3) (N := some 26) #[true, true, true, true, false, false, false, false, false, false, false, false, false, false, false, false, false, false, false, false, false, false, false, false, false, false] rfl rfl (one_of HT_.out (by kernel_rfl)) (by decide) (fun K hK => ?_)
      refine goes_ Tryd.func8 (by kernel_rfl) rfl #[.agg #[.int .u32 ai, .int .i64 aj]] (by rfl) rfl rfl (by (try simp only [List.map_toArray, List.map_cons, List.map_nil]); first | done | rfl) ?_
      with_reducible refine (whirligigref01_May.calls k ai aj t197 _ A10.out).mono ?_
      rintro e w48 ⟨rfl, hb⟩
      refine ⟨_, rfl, ?_⟩
      replace aa := Aside0.mk (ke2b2.q aa.out hb rfl)
      replace ab := Aside0.mk (ke2b2.q ab.out hb rfl)
      replace ac := Aside0.mk (ke2b2.q ac.out hb rfl)
      replace HB := Aside0.mk (below_step (by repeat (first | (with_reducible first | exact HB.out | apply below_alloc | apply pw_below_drewN | apply below_drew1 | refine below_set ?_ ae.out | refine below_set ?_ ah.out | refine below_set ?_ an.out) | exact HB.out)) hb)
      (try clear hb)
      (try clear ar)
      (try clear hk)
      (try clear hi)
      refine hK.out _ _ (ke2b2.b2 aa.out (ke2b2.b2 ab.out (ke2b2.b2e ac.out))) (fun hHeld => ?_)
      clear hK K
      refine norm_ (a' := ?_) ?_ ?_
      rotate_left
      ·show Act.put _ (some 26) _ = _
       simp only [Act.put, List.setIfInBounds_toArray, List.set_cons_zero, List.set_cons_succ, i64_w]
       rfl
      refine pure_ (i := 4) (N := some 27) (v := ?_) (a' := ?_) #[true, true, true, true, true, false, false, false, false, false, false, false, false, false, false, false, false, false, false, false, false, false, false, false, false, false] rfl rfl (any_of HT_.out (by kernel_rfl)) (fun _ _ _ h => h) (Or.inl ⟨by rfl, ?_⟩) ?_ ?_
      rotate_left
      ·intro w'
       go_simp
       with_reducible rfl
      rotate_left
      ·simp only [Act.put, List.setIfInBounds_toArray, List.set_cons_zero, List.set_cons_succ, i64_w]
       rfl
      refine pure_ (i := 5) (N := some 28) (v := ?_) (a' := ?_) #[true, true, true, true, true, true, false, false, false, false, false, false, false, false, false, false, false, false, false, false, false, false, false, false, false, false] rfl rfl (any_of HT_.out (by kernel_rfl)) (fun _ _ _ h => h) (Or.inl ⟨by rfl, ?_⟩) ?_ ?_
      rotate_left
      ·intro w'
       go_simp
       with_reducible rfl
      rotate_left
      ·simp only [Act.put, List.setIfInBounds_toArray, List.set_cons_zero, List.set_cons_succ, i64_w]
       rfl
      refine take_ (i := 6) (N := some 29) (v := ?_) (a' := ?_) #[true, true, true, true, true, true, true, false, false, false, false, false, false, false, false, false, false, false, false, false, false, false, false, false, false, false] rfl rfl (take_ofW HT_.out HW_.out (by kernel_rfl)) (fun _ _ _ h => h) (Or.inl ⟨by rfl, ?_⟩) hHeld ?_ ?_
      rotate_left
      ·rintro w' ⟨s0, s1, s2, s3, s4, s5⟩
       go_simp
       with_reducible rfl
      rotate_left
      ·simp only [Act.put, List.setIfInBounds_toArray, List.set_cons_zero, List.set_cons_succ, i64_w]
       rfl
      refine take_ (i := 8) (N := some 31) (v := ?_) (a' := ?_) #[true, true, true, true, true, true, true, false, true, false, false, false, false, false, false, false, false, false, false, false, false, false, false, false, false, false] rfl rfl (take_ofW HT_.out HW_.out (by kernel_rfl)) (fun _ _ _ h => h) (Or.inl ⟨by rfl, ?_⟩) hHeld ?_ ?_
      rotate_left
      ·rintro w' ⟨s0, s1, s2, s3, s4, s5⟩
       go_simp
       with_reducible rfl
      rotate_left
      ·simp only [Act.put, List.setIfInBounds_toArray, List.set_cons_zero, List.set_cons_succ, i64_w]
       rfl
      refine one_ (i := 7) (N := some 30) #[true, true, true, true, true, true, true, true, true, false, false, false, false, false, false, false, false, false, false, false, false, false, false, false, false, false] rfl rfl (one_of HT_.out (by kernel_rfl)) (by decide) (fun K hK => ?_)
      refine goes_ Tryd.func9 (by kernel_rfl) rfl #[.agg #[.int .u32 ai, .int .i64 aj]] (by rfl) rfl rfl (by (try simp only [List.map_toArray, List.map_cons, List.map_nil]); first | done | rfl) ?_
      with_reducible refine (addr_Text.calls k ai aj t198 _ A12.out).mono ?_
      rintro e w49 ⟨rfl, hb⟩
      refine ⟨_, rfl, ?_⟩
      replace aa := Aside0.mk (ke2b2.q aa.out hb rfl)
      replace ab := Aside0.mk (ke2b2.q ab.out hb rfl)
      replace ac := Aside0.mk (ke2b2.q ac.out hb rfl)
      replace HB := Aside0.mk (below_step (by repeat (first | (with_reducible first | exact HB.out | apply below_alloc | apply pw_below_drewN | apply below_drew1 | refine below_set ?_ ae.out | refine below_set ?_ ah.out | refine below_set ?_ an.out) | exact HB.out)) hb)
      (try clear hb)
      (try clear ar)
      (try clear hk)
      (try clear hi)
      refine hK.out _ _ (ke2b2.b2 aa.out (ke2b2.b2 ab.out (ke2b2.b2e ac.out))) (fun hHeld => ?_)
      clear hK K
      refine norm_ (a' := ?_) ?_ ?_
      rotate_left
      ·show Act.put _ (some 30) _ = _
       simp only [Act.put, List.setIfInBounds_toArray, List.set_cons_zero, List.set_cons_succ, i64_w]
       rfl
      refine one_ (i := 9) (N := some 32) #[true, true, true, true, true, true, true, true, true, true, false, false, false, false, false, false, false, false, false, false, false, false, false, false, false, false] rfl rfl (one_of HT_.out (by kernel_rfl)) (by decide) (fun K hK => ?_)
      refine goes_ Tryd.func10 (by kernel_rfl) rfl #[.agg #[.int .u32 ai, .int .i64 aj]] (by rfl) rfl rfl (by (try simp only [List.map_toArray, List.map_cons, List.map_nil]); first | done | rfl) ?_
      with_reducible refine (whirligigref01_Text.calls k ai aj t199 _ A13.out).mono ?_
      rintro e w50 ⟨rfl, hb⟩
      refine ⟨_, rfl, ?_⟩
      replace aa := Aside0.mk (ke2b2.q aa.out hb rfl)
      replace ab := Aside0.mk (ke2b2.q ab.out hb rfl)
      replace ac := Aside0.mk (ke2b2.q ac.out hb rfl)
      replace HB := Aside0.mk (below_step (by repeat (first | (with_reducible first | exact HB.out | apply below_alloc | apply pw_below_drewN | apply below_drew1 | refine below_set ?_ ae.out | refine below_set ?_ ah.out | refine below_set ?_ an.out) | exact HB.out)) hb)
      (try clear hb)
      (try clear ar)
      (try clear hk)
      (try clear hi)
      refine hK.out _ _ (ke2b2.b2 aa.out (ke2b2.b2 ab.out (ke2b2.b2e ac.out))) (fun hHeld => ?_)
      clear hK K
      refine norm_ (a' := ?_) ?_ ?_
      rotate_left
      ·show Act.put _ (some 32) _ = _
       simp only [Act.put, List.setIfInBounds_toArray, List.set_cons_zero, List.set_cons_succ, i64_w]
       rfl
      refine pure_ (i := 10) (N := some 33) (v := ?_) (a' := ?_) #[true, true, true, true, true, true, true, true, true, true, true, false, false, false, false, false, false, false, false, false, false, false, false, false, false, false] rfl rfl (any_of HT_.out (by kernel_rfl)) (fun _ _ _ h => h) (Or.inl ⟨by rfl, ?_⟩) ?_ ?_
      rotate_left
      ·intro w'
       go_simp
       with_reducible rfl
      rotate_left
      ·simp only [Act.put, List.setIfInBounds_toArray, List.set_cons_zero, List.set_cons_succ, i64_w]
       rfl
      refine pure_ (i := 11) (N := some 34) (v := ?_) (a' := ?_) #[true, true, true, true, true, true, true, true, true, true, true, true, false, false, false, false, false, false, false, false, false, false, false, false, false, false] rfl rfl (any_of HT_.out (by kernel_rfl)) (fun _ _ _ h => h) (Or.inl ⟨by rfl, ?_⟩) ?_ ?_
      rotate_left
      ·intro w'
       go_simp
       with_reducible rfl
      rotate_left
      ·simp only [Act.put, List.setIfInBounds_toArray, List.set_cons_zero, List.set_cons_succ, i64_w]
       rfl
      refine pure_ (i := 12) (N := some 35) (v := ?_) (a' := ?_) #[true, true, true, true, true, true, true, true, true, true, true, true, true, false, false, false, false, false, false, false, false, false, false, false, false, false] rfl rfl (any_of HT_.out (by kernel_rfl)) (fun _ _ _ h => h) (Or.inl ⟨by rfl, ?_⟩) ?_ ?_
      rotate_left
      ·intro w'
       go_simp
       with_reducible rfl
      rotate_left
      ·simp only [Act.put, List.setIfInBounds_toArray, List.set_cons_zero, List.set_cons_succ, i64_w]
       rfl
      refine take_ (i := 13) (N := some 36) (v := ?_) (a' := ?_) #[true, true, true, true, true, true, true, true, true, true, true, true, true, true, false, false, false, false, false, false, false, false, false, false, false, false] rfl rfl (take_ofW HT_.out HW_.out (by kernel_rfl)) (fun _ _ _ h => h) (Or.inl ⟨by rfl, ?_⟩) hHeld ?_ ?_
      rotate_left
      ·rintro w' ⟨s0, s1, s2, s3, s4, s5⟩
       go_simp
       with_reducible rfl
      rotate_left
      ·simp only [Act.put, List.setIfInBounds_toArray, List.set_cons_zero, List.set_cons_succ, i64_w]
       rfl
      refine take_ (i := 14) (N := some 37) (v := ?_) (a' := ?_) #[true, true, true, true, true, true, true, true, true, true, true, true, true, true, true, false, false, false, false, false, false, false, false, false, false, false] rfl rfl (take_ofW HT_.out HW_.out (by kernel_rfl)) (fun _ _ _ h => h) (Or.inl ⟨by rfl, ?_⟩) hHeld ?_ ?_
      rotate_left
      ·rintro w' ⟨s0, s1, s2, s3, s4, s5⟩
       go_simp
       with_reducible rfl
      rotate_left
      ·simp only [Act.put, List.setIfInBounds_toArray, List.set_cons_zero, List.set_cons_succ, i64_w]
       rfl
      refine pure_ (i := 15) (N := some 38) (v := ?_) (a' := ?_) #[true, true, true, true, true, true, true, true, true, true, true, true, true, true, true, true, false, false, false, false, false, false, false, false, false, false] rfl rfl (any_of HT_.out (by kernel_rfl)) (fun _ _ _ h => h) (Or.inl ⟨by rfl, ?_⟩) ?_ ?_
      rotate_left
      ·intro w'
       go_simp
       with_reducible rfl
      rotate_left
      ·simp only [Act.put, List.setIfInBounds_toArray, List.set_cons_zero, List.set_cons_succ, i64_w]
       rfl
      refine pure_ (i := 16) (N := some 39) (v := ?_) (a' := ?_) #[true, true, true, true, true, true, true, true, true, true, true, true, true, true, true, true, true, false, false, false, false, false, false, false, false, false] rfl rfl (any_of HT_.out (by kernel_rfl)) (fun _ _ _ h => h) (Or.inl ⟨by rfl, ?_⟩) ?_ ?_
      rotate_left
      ·intro w'
       go_simp
       with_reducible rfl
      rotate_left
      ·simp only [Act.put, List.setIfInBounds_toArray, List.set_cons_zero, List.set_cons_succ, i64_w]
       rfl
      refine pure_ (i := 17) (N := some 40) (v := ?_) (a' := ?_) #[true, true, true, true, true, true, true, true, true, true, true, true, true, true, true, true, true, true, false, false, false, false, false, false, false, false] rfl rfl (any_of HT_.out (by kernel_rfl)) (fun _ _ _ h => h) (Or.inl ⟨by rfl, ?_⟩) ?_ ?_
      rotate_left
      ·intro w'
       go_simp
       with_reducible rfl
      rotate_left
      ·simp only [Act.put, List.setIfInBounds_toArray, List.set_cons_zero, List.set_cons_succ, i64_w]
       rfl
      refine pure_ (i := 18) (N := some 41) (v := ?_) (a' := ?_) #[true, true, true, true, true, true, true, true, true, true, true, true, true, true, true, true, true, true, true, false, false, false, false, false, false, false] rfl rfl (any_of HT_.out (by kernel_rfl)) (fun _ _ _ h => h) (Or.inl ⟨by rfl, ?_⟩) ?_ ?_
      rotate_left
      ·intro w'
       go_simp
       with_reducible rfl
      rotate_left
      ·simp only [Act.put, List.setIfInBounds_toArray, List.set_cons_zero, List.set_cons_succ, i64_w]
       rfl
      refine pure_ (i := 19) (N := some 42) (v := ?_) (a' := ?_) #[true, true, true, true, true, true, true, true, true, true, true, true, true, true, true, true, true, true, true, true, false, false, false, false, false, false] rfl rfl (any_of HT_.out (by kernel_rfl)) (fun _ _ _ h => h) (Or.inl ⟨by rfl, ?_⟩) ?_ ?_
      rotate_left
      ·intro w'
       go_simp
       with_reducible rfl
      rotate_left
      ·simp only [Act.put, List.setIfInBounds_toArray, List.set_cons_zero, List.set_cons_succ, i64_w]
       rfl
      refine pure_ (i := 20) (N := some 43) (v := ?_) (a' := ?_) #[true, true, true, true, true, true, true, true, true, true, true, true, true, true, true, true, true, true, true, true, true, false, false, false, false, false] rfl rfl (any_of HT_.out (by kernel_rfl)) (fun _ _ _ h => h) (Or.inl ⟨by rfl, ?_⟩) ?_ ?_
      rotate_left
      ·intro w'
       go_simp
       with_reducible rfl
      rotate_left
      ·simp only [Act.put, List.setIfInBounds_toArray, List.set_cons_zero, List.set_cons_succ, i64_w]
       rfl
      refine pure_ (i := 21) (N := some 44) (v := ?_) (a' := ?_) #[true, true, true, true, true, true, true, true, true, true, true, true, true, true, true, true, true, true, true, true, true, true, false, false, false, false] rfl rfl (any_of HT_.out (by kernel_rfl)) (fun _ _ _ h => h) (Or.inl ⟨by rfl, ?_⟩) ?_ ?_
      rotate_left
      ·intro w'
       go_simp
       with_reducible rfl
      rotate_left
      ·simp only [Act.put, List.setIfInBounds_toArray, List.set_cons_zero, List.set_cons_succ, i64_w]
       rfl
      refine pure_ (i := 22) (N := some 45) (v := ?_) (a' := ?_) #[true, true, true, true, true, true, true, true, true, true, true, true, true, true, true, true, true, true, true, true, true, true, true, false, false, false] rfl rfl (any_of HT_.out (by kernel_rfl)) (fun _ _ _ h => h) (Or.inl ⟨by rfl, ?_⟩) ?_ ?_
      rotate_left
      ·intro w'
       go_simp
       with_reducible rfl
      rotate_left
      ·simp only [Act.put, List.setIfInBounds_toArray, List.set_cons_zero, List.set_cons_succ, i64_w]
       rfl
      refine pure_ (i := 23) (N := some 46) (v := undef) (a' := ?_) #[true, true, true, true, true, true, true, true, true, true, true, true, true, true, true, true, true, true, true, true, true, true, true, true, false, false] rfl rfl (any_of HT_.out (by kernel_rfl)) (fun _ _ _ h => h) (Or.inr ⟨by rfl, rfl⟩) ?_ ?_
      rotate_left
      ·simp only [Act.put, List.setIfInBounds_toArray, List.set_cons_zero, List.set_cons_succ, i64_w]
       rfl
      refine pure_ (i := 24) (N := some 47) (v := ?_) (a' := ?_) #[true, true, true, true, true, true, true, true, true, true, true, true, true, true, true, true, true, true, true, true, true, true, true, true, true, false] rfl rfl (any_of HT_.out (by kernel_rfl)) (fun _ _ _ h => h) (Or.inl ⟨by rfl, ?_⟩) ?_ ?_
      rotate_left
      ·intro w'
       go_simp
       with_reducible rfl
      rotate_left
      ·simp only [Act.put, List.setIfInBounds_toArray, List.set_cons_zero, List.set_cons_succ, i64_w]
       rfl
      refine pure_ (i := 25) (N := some 4) (v := ?_) (a' := ?_) #[true, true, true, true, true, true, true, true, true, true, true, true, true, true, true, true, true, true, true, true, true, true, true, true, true, true] rfl rfl (any_of HT_.out (by kernel_rfl)) (fun _ _ _ h => h) (Or.inl ⟨by rfl, ?_⟩) ?_ ?_
      rotate_left
      ·intro w'
       go_simp
       with_reducible rfl
      rotate_left
      ·simp only [Act.put, List.setIfInBounds_toArray, List.set_cons_zero, List.set_cons_succ, i64_w]
       rfl
      refine done_ (done_of HT_.out (by kernel_rfl)) ?_
      try go_wp2
      go_ret
      exact ⟨by first | rfl | (simp [errW_none, errW_some] <;> rfl) | (simp [*, errW_none, errW_some] <;> rfl), by repeat (first | (with_reducible first | exact HB.out | apply below_alloc | apply pw_below_drewN | apply below_drew1 | refine below_set ?_ ae.out | refine below_set ?_ ah.out | refine below_set ?_ an.out) | exact HB.out)⟩
    ·rw [if_neg av] at H
     have c15b0 : (t188 == t192 && (t189 == t193)) = false := by simpa using av
     (try (have c15b1 : decide (t188 = t192 && (t189 == t193)) = false := by simpa using av))
     (try (have c15b2 : (t188 == t192 && (t189 == t193)) = false := by simpa using av))
     (try (have c15b3 : ¬ (t188 = t192 && (t189 == t193)) := by simpa using av))
     clear av
     obtain rfl := Option.some.inj H
     go_enter Tryd.func3, Tryd.ntmps3
     try go_wp2_with (first | ((with_reducible refine gate_dst (N := 2) rfl ?_); refine box_event ?hg (N := 2) ?hd (cs := #[.int .u32 ai, .int .i64 aj]) (t := 24) ?hr ?_; (case hd => rfl); (case hg => rfl); (case hr => first | (go_simp; done) | (go_simp; rfl)); intro af hg w51 hbox hb; have n0_ := Aside0.mk (ke2b2.z HB.out hb rfl rfl rfl rfl); have n1_ := Aside0.mk (hbox); have n2_ := Aside0.mk ((by rw [hg]; exact (below_size (by repeat (first | (with_reducible first | exact HB.out | apply below_alloc | apply pw_below_drewN | apply below_drew1) | exact HB.out))) : w.heap.size ≤ af)); have n3_ := Aside0.mk ((by rw [hg]; exact (below_size (by repeat (first | (with_reducible first | exact HB.out | apply below_alloc | apply pw_below_drewN | apply below_drew1) | exact HB.out))) : w.heap.size ≤ af)); clear HB; have HB := n0_; have aa := n1_; have GW186 := n2_; have ae := n3_; clear n0_ n1_ n2_ n3_; clear hb hbox hg) | ((with_reducible refine gate_callee (f := 5) rfl ?_); refine goesL_ (some 15) rfl rfl Tryd.func5 (by kernel_rfl) rfl #[.string a1] rfl (by (try simp only [List.map_toArray, List.map_cons, List.map_nil]); first | done | rfl) ?_; (with_reducible refine (addr_Parse.calls k a1 t188 t189 t190 _ A7.out).mono ?_); rintro e w52 ⟨rfl, hb⟩; refine ⟨_, rfl, ?_⟩; replace aa := Aside0.mk (ke2b2.q aa.out hb rfl); replace HB := Aside0.mk (below_step (by repeat (first | (with_reducible first | exact HB.out | apply below_alloc | apply pw_below_drewN | apply below_drew1 | refine below_set ?_ ae.out) | exact HB.out)) hb); (try clear hb); (try clear ar); (try clear hk); (try clear hi)) | ((with_reducible refine gate_dst (N := 5) rfl ?_); refine box_event ?hg (N := 5) ?hd (cs := #[.int .u32 0, .int .i64 0]) (t := 24) ?hr ?_; (case hd => rfl); (case hg => rfl); (case hr => first | (go_simp; done) | (go_simp; rfl)); intro ag hg w53 hbox hb; have n0_ := Aside0.mk (ke2b2.q aa.out hb rfl); have n1_ := Aside0.mk (below_step (by repeat (first | (with_reducible first | exact HB.out | apply below_alloc | apply pw_below_drewN | apply below_drew1 | refine below_set ?_ ae.out) | exact HB.out)) hb); have n2_ := Aside0.mk (hbox); have n3_ := Aside0.mk ((by rw [hg]; exact (below_size (by repeat (first | (with_reducible first | exact HB.out | apply below_alloc | apply pw_below_drewN | apply below_drew1 | refine below_set ?_ ae.out) | exact HB.out))) : w.heap.size ≤ ag)); have n4_ := Aside0.mk ((by rw [hg]; exact (below_size (by repeat (first | (with_reducible first | exact HB.out | apply below_alloc | apply pw_below_drewN | apply below_drew1 | refine below_set ?_ ae.out) | exact HB.out))) : w.heap.size ≤ ag)); have n5_ := Aside0.mk ((by rw [hg]; exact Nat.ne_of_lt (blk_lt (g := af) (o := .cells #[.int .u32 ai, .int .i64 aj] 24 (0, 0)) (by (with_reducible repeat (first | refine blk_drewN ?_ _ | refine blk_drew ?_ | refine blk_alloc ?_ _)); exact aa.out)) : af ≠ ag)); have n6_ := Aside0.mk ((by rw [hg]; exact Nat.ne_of_gt (blk_lt (g := af) (o := .cells #[.int .u32 ai, .int .i64 aj] 24 (0, 0)) (by (with_reducible repeat (first | refine blk_drewN ?_ _ | refine blk_drew ?_ | refine blk_alloc ?_ _)); exact aa.out)) : ag ≠ af)); clear aa; clear HB; have aa := n0_; have HB := n1_; have ab := n2_; have GW191 := n3_; have ah := n4_; have ak := n5_; have ao := n6_; clear n0_ n1_ n2_ n3_ n4_ n5_ n6_; clear hb hbox hg; have hnb54 := ao.out; have hnc54 := ak.out; have hcz55_0 : w53.cell? ⟨ag, 0, none⟩ = some (.int .u32 0) := (blk_cell ab.out 0).trans rfl; have hcz55_1 : w53.cell? ⟨ag, 1, none⟩ = some (.int .i64 0) := (blk_cell ab.out 1).trans rfl; have hfz55_0 := blk_frozen ab.out 0; have hfz55_1 := blk_frozen ab.out 1) | ((with_reducible refine gate_callee (f := 6) rfl ?_); refine goesL_ (some 20) rfl rfl Tryd.func6 (by kernel_rfl) rfl #[.string a1] rfl (by (try simp only [List.map_toArray, List.map_cons, List.map_nil]); first | done | rfl) ?_; (with_reducible refine (whirligigref01_Parse.calls k a1 t192 t193 t194 _ A8.out).mono ?_); rintro e w56 ⟨rfl, hb⟩; refine ⟨_, rfl, ?_⟩; replace aa := Aside0.mk (blk_below (g := af) (o := .cells #[.int .u32 ai, .int .i64 aj] 24 (0, 0)) (by (with_reducible repeat (first | refine blk_drewN ?_ _ | refine blk_drew ?_ | refine blk_alloc ?_ _)); refine blk_far ?_ ak.out _; (with_reducible repeat (first | refine blk_drewN ?_ _ | refine blk_drew ?_ | refine blk_alloc ?_ _)); refine blk_far ?_ ak.out _; (with_reducible repeat (first | refine blk_drewN ?_ _ | refine blk_drew ?_ | refine blk_alloc ?_ _)); exact aa.out) hb); replace ab := Aside0.mk (blk_below (g := ag) (o := .cells #[.int .u32 t188, .int .i64 t189] 24 (0, 0)) (by (with_reducible repeat (first | refine blk_drewN ?_ _ | refine blk_drew ?_ | refine blk_alloc ?_ _)); refine blk_put (cs := #[.int .u32 t188, .int .i64 0]) ?_ 1 _ rfl; (with_reducible repeat (first | refine blk_drewN ?_ _ | refine blk_drew ?_ | refine blk_alloc ?_ _)); refine blk_put (cs := #[.int .u32 0, .int .i64 0]) ?_ 0 _ rfl; (with_reducible repeat (first | refine blk_drewN ?_ _ | refine blk_drew ?_ | refine blk_alloc ?_ _)); exact ab.out) hb); replace HB := Aside0.mk (below_step (by repeat (first | (with_reducible first | exact HB.out | apply below_alloc | apply pw_below_drewN | apply below_drew1 | refine below_set ?_ ae.out | refine below_set ?_ ah.out) | exact HB.out)) hb); (try clear hb); (try clear ar); (try clear hk); (try clear hi)) | ((with_reducible refine gate_dst (N := 7) rfl ?_); refine box_event ?hg (N := 7) ?hd (cs := #[.int .u32 0, .int .i64 0]) (t := 24) ?hr ?_; (case hd => rfl); (case hg => rfl); (case hr => first | (go_simp; done) | (go_simp; rfl)); intro ad hg w57 hbox hb; have n0_ := Aside0.mk (ke2b2.q aa.out hb rfl); have n1_ := Aside0.mk (ke2b2.q ab.out hb rfl); have n2_ := Aside0.mk (below_step (by repeat (first | (with_reducible first | exact HB.out | apply below_alloc | apply pw_below_drewN | apply below_drew1 | refine below_set ?_ ae.out | refine below_set ?_ ah.out) | exact HB.out)) hb); have n3_ := Aside0.mk (hbox); have n4_ := Aside0.mk ((by rw [hg]; exact (below_size (by repeat (first | (with_reducible first | exact HB.out | apply below_alloc | apply pw_below_drewN | apply below_drew1 | refine below_set ?_ ae.out | refine below_set ?_ ah.out) | exact HB.out))) : w.heap.size ≤ ad)); have n5_ := Aside0.mk ((by rw [hg]; exact (below_size (by repeat (first | (with_reducible first | exact HB.out | apply below_alloc | apply pw_below_drewN | apply below_drew1 | refine below_set ?_ ae.out | refine below_set ?_ ah.out) | exact HB.out))) : w.heap.size ≤ ad)); have n6_ := Aside0.mk ((by rw [hg]; exact Nat.ne_of_lt (blk_lt (g := af) (o := .cells #[.int .u32 ai, .int .i64 aj] 24 (0, 0)) (by (with_reducible repeat (first | refine blk_drewN ?_ _ | refine blk_drew ?_ | refine blk_alloc ?_ _)); exact aa.out)) : af ≠ ad)); have n7_ := Aside0.mk ((by rw [hg]; exact Nat.ne_of_gt (blk_lt (g := af) (o := .cells #[.int .u32 ai, .int .i64 aj] 24 (0, 0)) (by (with_reducible repeat (first | refine blk_drewN ?_ _ | refine blk_drew ?_ | refine blk_alloc ?_ _)); exact aa.out)) : ad ≠ af)); have n8_ := Aside0.mk ((by rw [hg]; exact Nat.ne_of_lt (blk_lt (g := ag) (o := .cells #[.int .u32 t188, .int .i64 t189] 24 (0, 0)) (by (with_reducible repeat (first | refine blk_drewN ?_ _ | refine blk_drew ?_ | refine blk_alloc ?_ _)); exact ab.out)) : ag ≠ ad)); have n9_ := Aside0.mk ((by rw [hg]; exact Nat.ne_of_gt (blk_lt (g := ag) (o := .cells #[.int .u32 t188, .int .i64 t189] 24 (0, 0)) (by (with_reducible repeat (first | refine blk_drewN ?_ _ | refine blk_drew ?_ | refine blk_alloc ?_ _)); exact ab.out)) : ad ≠ ag)); clear aa; clear ab; clear HB; have aa := n0_; have ab := n1_; have HB := n2_; have ac := n3_; have GW195 := n4_; have an := n5_; have al := n6_; have ap := n7_; have am := n8_; have aq := n9_; clear n0_ n1_ n2_ n3_ n4_ n5_ n6_ n7_ n8_ n9_; clear hb hbox hg; have hnb58 := ap.out; have hnc58 := al.out; have hnb59 := aq.out; have hnc59 := am.out; have hcz60_0 : w57.cell? ⟨ad, 0, none⟩ = some (.int .u32 0) := (blk_cell ac.out 0).trans rfl; have hcz60_1 : w57.cell? ⟨ad, 1, none⟩ = some (.int .i64 0) := (blk_cell ac.out 1).trans rfl; have hfz60_0 := blk_frozen ac.out 0; have hfz60_1 := blk_frozen ac.out 1))
     have n0_ : Aside0 (((w57.setCell ⟨ad, 0, none⟩ (.int .u32 t192)).setCell ⟨ad, 1, none⟩ (.int .i64 t193)).heap[af]? = some (.cells #[.int .u32 ai, .int .i64 aj] 24 (0, 0))) := ⟨by (with_reducible repeat (first | refine blk_drewN ?_ _ | refine blk_drew ?_ | refine blk_alloc ?_ _)); refine blk_far ?_ al.out _; (with_reducible repeat (first | refine blk_drewN ?_ _ | refine blk_drew ?_ | refine blk_alloc ?_ _)); refine blk_far ?_ al.out _; (with_reducible repeat (first | refine blk_drewN ?_ _ | refine blk_drew ?_ | refine blk_alloc ?_ _)); exact aa.out⟩
     have n1_ : Aside0 (((w57.setCell ⟨ad, 0, none⟩ (.int .u32 t192)).setCell ⟨ad, 1, none⟩ (.int .i64 t193)).heap[ag]? = some (.cells #[.int .u32 t188, .int .i64 t189] 24 (0, 0))) := ⟨by (with_reducible repeat (first | refine blk_drewN ?_ _ | refine blk_drew ?_ | refine blk_alloc ?_ _)); refine blk_far ?_ am.out _; (with_reducible repeat (first | refine blk_drewN ?_ _ | refine blk_drew ?_ | refine blk_alloc ?_ _)); refine blk_far ?_ am.out _; (with_reducible repeat (first | refine blk_drewN ?_ _ | refine blk_drew ?_ | refine blk_alloc ?_ _)); exact ab.out⟩
     have n2_ : Aside0 (((w57.setCell ⟨ad, 0, none⟩ (.int .u32 t192)).setCell ⟨ad, 1, none⟩ (.int .i64 t193)).heap[ad]? = some (.cells #[.int .u32 t192, .int .i64 t193] 24 (0, 0))) := ⟨by (with_reducible repeat (first | refine blk_drewN ?_ _ | refine blk_drew ?_ | refine blk_alloc ?_ _)); refine blk_put (cs := #[.int .u32 t192, .int .i64 0]) ?_ 1 _ rfl; (with_reducible repeat (first | refine blk_drewN ?_ _ | refine blk_drew ?_ | refine blk_alloc ?_ _)); refine blk_put (cs := #[.int .u32 0, .int .i64 0]) ?_ 0 _ rfl; (with_reducible repeat (first | refine blk_drewN ?_ _ | refine blk_drew ?_ | refine blk_alloc ?_ _)); exact ac.out⟩
     have n3_ : Aside0 (Below w.heap.size w ((w57.setCell ⟨ad, 0, none⟩ (.int .u32 t192)).setCell ⟨ad, 1, none⟩ (.int .i64 t193))) := ⟨by repeat (first | (with_reducible first | exact HB.out | apply below_alloc | apply pw_below_drewN | apply below_drew1 | refine below_set ?_ ae.out | refine below_set ?_ ah.out | refine below_set ?_ an.out) | exact HB.out)⟩
     (try clear aa)
     (try clear ab)
     (try clear ac)
     (try clear HB)
     generalize ((w57.setCell ⟨ad, 0, none⟩ (.int .u32 t192)).setCell ⟨ad, 1, none⟩ (.int .i64 t193)) = w61 at n0_ n1_ n2_ n3_ ⊢
     have aa := n0_
     have ab := n1_
     have ac := n2_
     have HB := n3_
     clear n0_ n1_ n2_ n3_
     replace aa := Aside0.mk (blk_drew aa.out)
     replace ab := Aside0.mk (blk_drew ab.out)
     replace ac := Aside0.mk (blk_drew ac.out)
     replace HB := Aside0.mk (below_drew1 HB.out)
     refine start_ (n := 26) (S := ke2b2.S0 af ag ad (.int .u32 ai) (.int .i64 aj) (.int .u32 t188) (.int .i64 t189) (.int .u32 t192) (.int .i64 t193)) (ds := []) #[false, false, false, false, false, false, false, false, false, false, false, false, false, false, false, false, false, false, false, false, false, false, false, false, false, false] (by kernel_rfl) rfl rfl (ke2b2.b2 aa.out (ke2b2.b2 ab.out (ke2b2.b2e ac.out))) (fun hHeld => ?_); refine with_tabW whirligiglaw01_AddrTexts.tab5 whirligiglaw01_AddrTexts.bits5 (fun HT_ HW_ => ?_)
     generalize w61.drew = w62 at aa ab ac HB hHeld ⊢
     refine take_ (i := 0) (N := some 23) (v := ?_) (a' := ?_) #[true, false, false, false, false, false, false, false, false, false, false, false, false, false, false, false, false, false, false, false, false, false, false, false, false, false] rfl rfl (take_ofW HT_.out HW_.out (by kernel_rfl)) (fun _ _ _ h => h) (Or.inl ⟨by rfl, ?_⟩) hHeld ?_ ?_
     rotate_left
     ·rintro w' ⟨s0, s1, s2, s3, s4, s5⟩
      go_simp
      with_reducible rfl
     rotate_left
     ·simp only [Act.put, List.setIfInBounds_toArray, List.set_cons_zero, List.set_cons_succ, i64_w]
      rfl
     refine take_ (i := 2) (N := some 25) (v := ?_) (a' := ?_) #[true, false, true, false, false, false, false, false, false, false, false, false, false, false, false, false, false, false, false, false, false, false, false, false, false, false] rfl rfl (take_ofW HT_.out HW_.out (by kernel_rfl)) (fun _ _ _ h => h) (Or.inl ⟨by rfl, ?_⟩) hHeld ?_ ?_
     rotate_left
     ·rintro w' ⟨s0, s1, s2, s3, s4, s5⟩
      go_simp
      with_reducible rfl
     rotate_left
     ·simp only [Act.put, List.setIfInBounds_toArray, List.set_cons_zero, List.set_cons_succ, i64_w]
      rfl
     refine one_ (i := 1) (N := some 24) #[true, true, true, false, false, false, false, false, false, false, false, false, false, false, false, false, false, false, false, false, false, false, false, false, false, false] rfl rfl (one_of HT_.out (by kernel_rfl)) (by decide) (fun K hK => ?_)
     refine goes_ Tryd.func7 (by kernel_rfl) rfl #[.agg #[.int .u32 ai, .int .i64 aj]] (by rfl) rfl rfl (by (try simp only [List.map_toArray, List.map_cons, List.map_nil]); first | done | rfl) ?_
     with_reducible refine (addr_May.calls ai aj t196 _ A9.out).mono ?_
     rintro e w63 ⟨rfl, hb⟩
     refine ⟨_, rfl, ?_⟩
     replace aa := Aside0.mk (ke2b2.q aa.out hb rfl)
     replace ab := Aside0.mk (ke2b2.q ab.out hb rfl)
     replace ac := Aside0.mk (ke2b2.q ac.out hb rfl)
     replace HB := Aside0.mk (below_step (by repeat (first | (with_reducible first | exact HB.out | apply below_alloc | apply pw_below_drewN | apply below_drew1 | refine below_set ?_ ae.out | refine below_set ?_ ah.out | refine below_set ?_ an.out) | exact HB.out)) hb)
     (try clear hb)
     (try clear ar)
     (try clear hk)
     (try clear hi)
     refine hK.out _ _ (ke2b2.b2 aa.out (ke2b2.b2 ab.out (ke2b2.b2e ac.out))) (fun hHeld => ?_)
     clear hK K
     refine norm_ (a' := ?_) ?_ ?_
     rotate_left
     ·show Act.put _ (some 24) _ = _
      simp only [Act.put, List.setIfInBounds_toArray, List.set_cons_zero, List.set_cons_succ, i64_w]
      rfl
     refine one_ (i := 3) (N := some 26) #[true, true, true, true, false, false, false, false, false, false, false, false, false, false, false, false, false, false, false, false, false, false, false, false, false, false] rfl rfl (one_of HT_.out (by kernel_rfl)) (by decide) (fun K hK => ?_)
     refine goes_ Tryd.func8 (by kernel_rfl) rfl #[.agg #[.int .u32 ai, .int .i64 aj]] (by rfl) rfl rfl (by (try simp only [List.map_toArray, List.map_cons, List.map_nil]); first | done | rfl) ?_
     with_reducible refine (whirligigref01_May.calls k ai aj t197 _ A10.out).mono ?_
     rintro e w64 ⟨rfl, hb⟩
     refine ⟨_, rfl, ?_⟩
     replace aa := Aside0.mk (ke2b2.q aa.out hb rfl)
     replace ab := Aside0.mk (ke2b2.q ab.out hb rfl)
     replace ac := Aside0.mk (ke2b2.q ac.out hb rfl)
     replace HB := Aside0.mk (below_step (by repeat (first | (with_reducible first | exact HB.out | apply below_alloc | apply pw_below_drewN | apply below_drew1 | refine below_set ?_ ae.out | refine below_set ?_ ah.out | refine below_set ?_ an.out) | exact HB.out)) hb)
     (try clear hb)
     (try clear ar)
     (try clear hk)
     (try clear hi)
     refine hK.out _ _ (ke2b2.b2 aa.out (ke2b2.b2 ab.out (ke2b2.b2e ac.out))) (fun hHeld => ?_)
     clear hK K
     refine norm_ (a' := ?_) ?_ ?_
     rotate_left
     ·show Act.put _ (some 26) _ = _
      simp only [Act.put, List.setIfInBounds_toArray, List.set_cons_zero, List.set_cons_succ, i64_w]
      rfl
     refine pure_ (i := 4) (N := some 27) (v := ?_) (a' := ?_) #[true, true, true, true, true, false, false, false, false, false, false, false, false, false, false, false, false, false, false, false, false, false, false, false, false, false] rfl rfl (any_of HT_.out (by kernel_rfl)) (fun _ _ _ h => h) (Or.inl ⟨by rfl, ?_⟩) ?_ ?_
     rotate_left
     ·intro w'
      go_simp
      with_reducible rfl
     rotate_left
     ·simp only [Act.put, List.setIfInBounds_toArray, List.set_cons_zero, List.set_cons_succ, i64_w]
      rfl
     refine pure_ (i := 5) (N := some 28) (v := ?_) (a' := ?_) #[true, true, true, true, true, true, false, false, false, false, false, false, false, false, false, false, false, false, false, false, false, false, false, false, false, false] rfl rfl (any_of HT_.out (by kernel_rfl)) (fun _ _ _ h => h) (Or.inl ⟨by rfl, ?_⟩) ?_ ?_
     rotate_left
     ·intro w'
      go_simp
      with_reducible rfl
     rotate_left
     ·simp only [Act.put, List.setIfInBounds_toArray, List.set_cons_zero, List.set_cons_succ, i64_w]
      rfl
     refine take_ (i := 6) (N := some 29) (v := ?_) (a' := ?_) #[true, true, true, true, true, true, true, false, false, false, false, false, false, false, false, false, false, false, false, false, false, false, false, false, false, false] rfl rfl (take_ofW HT_.out HW_.out (by kernel_rfl)) (fun _ _ _ h => h) (Or.inl ⟨by rfl, ?_⟩) hHeld ?_ ?_
     rotate_left
     ·rintro w' ⟨s0, s1, s2, s3, s4, s5⟩
      go_simp
      with_reducible rfl
     rotate_left
     ·simp only [Act.put, List.setIfInBounds_toArray, List.set_cons_zero, List.set_cons_succ, i64_w]
      rfl
     refine take_ (i := 8) (N := some 31) (v := ?_) (a' := ?_) #[true, true, true, true, true, true, true, false, true, false, false, false, false, false, false, false, false, false, false, false, false, false, false, false, false, false] rfl rfl (take_ofW HT_.out HW_.out (by kernel_rfl)) (fun _ _ _ h => h) (Or.inl ⟨by rfl, ?_⟩) hHeld ?_ ?_
     rotate_left
     ·rintro w' ⟨s0, s1, s2, s3, s4, s5⟩
      go_simp
      with_reducible rfl
     rotate_left
     ·simp only [Act.put, List.setIfInBounds_toArray, List.set_cons_zero, List.set_cons_succ, i64_w]
      rfl
     refine one_ (i := 7) (N := some 30) #[true, true, true, true, true, true, true, true, true, false, false, false, false, false, false, false, false, false, false, false, false, false, false, false, false, false] rfl rfl (one_of HT_.out (by kernel_rfl)) (by decide) (fun K hK => ?_)
     refine goes_ Tryd.func9 (by kernel_rfl) rfl #[.agg #[.int .u32 ai, .int .i64 aj]] (by rfl) rfl rfl (by (try simp only [List.map_toArray, List.map_cons, List.map_nil]); first | done | rfl) ?_
     with_reducible refine (addr_Text.calls k ai aj t198 _ A12.out).mono ?_
     rintro e w65 ⟨rfl, hb⟩
     refine ⟨_, rfl, ?_⟩
     replace aa := Aside0.mk (ke2b2.q aa.out hb rfl)
     replace ab := Aside0.mk (ke2b2.q ab.out hb rfl)
     replace ac := Aside0.mk (ke2b2.q ac.out hb rfl)
     replace HB := Aside0.mk (below_step (by repeat (first | (with_reducible first | exact HB.out | apply below_alloc | apply pw_below_drewN | apply below_drew1 | refine below_set ?_ ae.out | refine below_set ?_ ah.out | refine below_set ?_ an.out) | exact HB.out)) hb)
     (try clear hb)
     (try clear ar)
     (try clear hk)
     (try clear hi)
     refine hK.out _ _ (ke2b2.b2 aa.out (ke2b2.b2 ab.out (ke2b2.b2e ac.out))) (fun hHeld => ?_)
     clear hK K
     refine norm_ (a' := ?_) ?_ ?_
     rotate_left
     ·show Act.put _ (some 30) _ = _
      simp only [Act.put, List.setIfInBounds_toArray, List.set_cons_zero, List.set_cons_succ, i64_w]
      rfl
     refine one_ (i := 9) (N := some 32) #[true, true, true, true, true, true, true, true, true, true, false, false, false, false, false, false, false, false, false, false, false, false, false, false, false, false] rfl rfl (one_of HT_.out (by kernel_rfl)) (by decide) (fun K hK => ?_)
     refine goes_ Tryd.func10 (by kernel_rfl) rfl #[.agg #[.int .u32 ai, .int .i64 aj]] (by rfl) rfl rfl (by (try simp only [List.map_toArray, List.map_cons, List.map_nil]); first | done | rfl) ?_
     with_reducible refine (whirligigref01_Text.calls k ai aj t199 _ A13.out).mono ?_
     rintro e w66 ⟨rfl, hb⟩
     refine ⟨_, rfl, ?_⟩
     replace aa := Aside0.mk (ke2b2.q aa.out hb rfl)
     replace ab := Aside0.mk (ke2b2.q ab.out hb rfl)
     replace ac := Aside0.mk (ke2b2.q ac.out hb rfl)
     replace HB := Aside0.mk (below_step (by repeat (first | (with_reducible first | exact HB.out | apply below_alloc | apply pw_below_drewN | apply below_drew1 | refine below_set ?_ ae.out | refine below_set ?_ ah.out | refine below_set ?_ an.out) | exact HB.out)) hb)
     (try clear hb)
     (try clear ar)
     (try clear hk)
     (try clear hi)
     refine hK.out _ _ (ke2b2.b2 aa.out (ke2b2.b2 ab.out (ke2b2.b2e ac.out))) (fun hHeld => ?_)
     clear hK K
     refine norm_ (a' := ?_) ?_ ?_
     rotate_left
     ·show Act.put _ (some 32) _ = _
      simp only [Act.put, List.setIfInBounds_toArray, List.set_cons_zero, List.set_cons_succ, i64_w]
      rfl
     refine pure_ (i := 10) (N := some 33) (v := ?_) (a' := ?_) #[true, true, true, true, true, true, true, true, true, true, true, false, false, false, false, false, false, false, false, false, false, false, false, false, false, false] rfl rfl (any_of HT_.out (by kernel_rfl)) (fun _ _ _ h => h) (Or.inl ⟨by rfl, ?_⟩) ?_ ?_
     rotate_left
     ·intro w'
      go_simp
      with_reducible rfl
     rotate_left
     ·simp only [Act.put, List.setIfInBounds_toArray, List.set_cons_zero, List.set_cons_succ, i64_w]
      rfl
     refine pure_ (i := 11) (N := some 34) (v := ?_) (a' := ?_) #[true, true, true, true, true, true, true, true, true, true, true, true, false, false, false, false, false, false, false, false, false, false, false, false, false, false] rfl rfl (any_of HT_.out (by kernel_rfl)) (fun _ _ _ h => h) (Or.inl ⟨by rfl, ?_⟩) ?_ ?_
     rotate_left
     ·intro w'
      go_simp
      with_reducible rfl
     rotate_left
     ·simp only [Act.put, List.setIfInBounds_toArray, List.set_cons_zero, List.set_cons_succ, i64_w]
      rfl
     refine pure_ (i := 12) (N := some 35) (v := ?_) (a' := ?_) #[true, true, true, true, true, true, true, true, true, true, true, true, true, false, false, false, false, false, false, false, false, false, false, false, false, false] rfl rfl (any_of HT_.out (by kernel_rfl)) (fun _ _ _ h => h) (Or.inl ⟨by rfl, ?_⟩) ?_ ?_
     rotate_left
     ·intro w'
      go_simp
      with_reducible rfl
     rotate_left
     ·simp only [Act.put, List.setIfInBounds_toArray, List.set_cons_zero, List.set_cons_succ, i64_w]
      rfl
     refine take_ (i := 13) (N := some 36) (v := ?_) (a' := ?_) #[true, true, true, true, true, true, true, true, true, true, true, true, true, true, false, false, false, false, false, false, false, false, false, false, false, false] rfl rfl (take_ofW HT_.out HW_.out (by kernel_rfl)) (fun _ _ _ h => h) (Or.inl ⟨by rfl, ?_⟩) hHeld ?_ ?_
     rotate_left
     ·rintro w' ⟨s0, s1, s2, s3, s4, s5⟩
      go_simp
      with_reducible rfl
     rotate_left
     ·simp only [Act.put, List.setIfInBounds_toArray, List.set_cons_zero, List.set_cons_succ, i64_w]
      rfl
     refine take_ (i := 14) (N := some 37) (v := ?_) (a' := ?_) #[true, true, true, true, true, true, true, true, true, true, true, true, true, true, true, false, false, false, false, false, false, false, false, false, false, false] rfl rfl (take_ofW HT_.out HW_.out (by kernel_rfl)) (fun _ _ _ h => h) (Or.inl ⟨by rfl, ?_⟩) hHeld ?_ ?_
     rotate_left
     ·rintro w' ⟨s0, s1, s2, s3, s4, s5⟩
      go_simp
      with_reducible rfl
     rotate_left
     ·simp only [Act.put, List.setIfInBounds_toArray, List.set_cons_zero, List.set_cons_succ, i64_w]
      rfl
     refine pure_ (i := 15) (N := some 38) (v := ?_) (a' := ?_) #[true, true, true, true, true, true, true, true, true, true, true, true, true, true, true, true, false, false, false, false, false, false, false, false, false, false] rfl rfl (any_of HT_.out (by kernel_rfl)) (fun _ _ _ h => h) (Or.inl ⟨by rfl, ?_⟩) ?_ ?_
     rotate_left
     ·intro w'
      go_simp
      with_reducible rfl
     rotate_left
     ·simp only [Act.put, List.setIfInBounds_toArray, List.set_cons_zero, List.set_cons_succ, i64_w]
      rfl
     refine pure_ (i := 16) (N := some 39) (v := ?_) (a' := ?_) #[true, true, true, true, true, true, true, true, true, true, true, true, true, true, true, true, true, false, false, false, false, false, false, false, false, false] rfl rfl (any_of HT_.out (by kernel_rfl)) (fun _ _ _ h => h) (Or.inl ⟨by rfl, ?_⟩) ?_ ?_
     rotate_left
     ·intro w'
      go_simp
      with_reducible rfl
     rotate_left
     ·simp only [Act.put, List.setIfInBounds_toArray, List.set_cons_zero, List.set_cons_succ, i64_w]
      rfl
     refine pure_ (i := 17) (N := some 40) (v := ?_) (a' := ?_) #[true, true, true, true, true, true, true, true, true, true, true, true, true, true, true, true, true, true, false, false, false, false, false, false, false, false] rfl rfl (any_of HT_.out (by kernel_rfl)) (fun _ _ _ h => h) (Or.inl ⟨by rfl, ?_⟩) ?_ ?_
     rotate_left
     ·intro w'
      go_simp
      with_reducible rfl
     rotate_left
     ·simp only [Act.put, List.setIfInBounds_toArray, List.set_cons_zero, List.set_cons_succ, i64_w]
      rfl
     refine pure_ (i := 18) (N := some 41) (v := undef) (a' := ?_) #[true, true, true, true, true, true, true, true, true, true, true, true, true, true, true, true, true, true, true, false, false, false, false, false, false, false] rfl rfl (any_of HT_.out (by kernel_rfl)) (fun _ _ _ h => h) (Or.inr ⟨by rfl, rfl⟩) ?_ ?_
     rotate_left
     ·simp only [Act.put, List.setIfInBounds_toArray, List.set_cons_zero, List.set_cons_succ, i64_w]
      rfl
     refine pure_ (i := 19) (N := some 42) (v := undef) (a' := ?_) #[true, true, true, true, true, true, true, true, true, true, true, true, true, true, true, true, true, true, true, true, false, false, false, false, false, false] rfl rfl (any_of HT_.out (by kernel_rfl)) (fun _ _ _ h => h) (Or.inr ⟨by rfl, rfl⟩) ?_ ?_
     rotate_left
     ·simp only [Act.put, List.setIfInBounds_toArray, List.set_cons_zero, List.set_cons_succ, i64_w]
      rfl
     refine pure_ (i := 20) (N := some 43) (v := undef) (a' := ?_) #[true, true, true, true, true, true, true, true, true, true, true, true, true, true, true, true, true, true, true, true, true, false, false, false, false, false] rfl rfl (any_of HT_.out (by kernel_rfl)) (fun _ _ _ h => h) (Or.inr ⟨by rfl, rfl⟩) ?_ ?_
     rotate_left
     ·simp only [Act.put, List.setIfInBounds_toArray, List.set_cons_zero, List.set_cons_succ, i64_w]
      rfl
     refine pure_ (i := 21) (N := some 44) (v := ?_) (a' := ?_) #[true, true, true, true, true, true, true, true, true, true, true, true, true, true, true, true, true, true, true, true, true, true, false, false, false, false] rfl rfl (any_of HT_.out (by kernel_rfl)) (fun _ _ _ h => h) (Or.inl ⟨by rfl, ?_⟩) ?_ ?_
     rotate_left
     ·intro w'
      go_simp
      with_reducible rfl
     rotate_left
     ·simp only [Act.put, List.setIfInBounds_toArray, List.set_cons_zero, List.set_cons_succ, i64_w]
      rfl
     refine pure_ (i := 22) (N := some 45) (v := ?_) (a' := ?_) #[true, true, true, true, true, true, true, true, true, true, true, true, true, true, true, true, true, true, true, true, true, true, true, false, false, false] rfl rfl (any_of HT_.out (by kernel_rfl)) (fun _ _ _ h => h) (Or.inl ⟨by rfl, ?_⟩) ?_ ?_
     rotate_left
     ·intro w'
      go_simp
      with_reducible rfl
     rotate_left
     ·simp only [Act.put, List.setIfInBounds_toArray, List.set_cons_zero, List.set_cons_succ, i64_w]
      rfl
     refine pure_ (i := 23) (N := some 46) (v := undef) (a' := ?_) #[true, true, true, true, true, true, true, true, true, true, true, true, true, true, true, true, true, true, true, true, true, true, true, true, false, false] rfl rfl (any_of HT_.out (by kernel_rfl)) (fun _ _ _ h => h) (Or.inr ⟨by rfl, rfl⟩) ?_ ?_
     rotate_left
     ·simp only [Act.put, List.setIfInBounds_toArray, List.set_cons_zero, List.set_cons_succ, i64_w]
      rfl
     refine pure_ (i := 24) (N := some 47) (v := ?_) (a' := ?_) #[true, true, true, true, true, true, true, true, true, true, true, true, true, true, true, true, true, true, true, true, true, true, true, true, true, false] rfl rfl (any_of HT_.out (by kernel_rfl)) (fun _ _ _ h => h) (Or.inl ⟨by rfl, ?_⟩) ?_ ?_
     rotate_left
     ·intro w'
      go_simp
      with_reducible rfl
     rotate_left
     ·simp only [Act.put, List.setIfInBounds_toArray, List.set_cons_zero, List.set_cons_succ, i64_w]
      rfl
     refine pure_ (i := 25) (N := some 4) (v := ?_) (a' := ?_) #[true, true, true, true, true, true, true, true, true, true, true, true, true, true, true, true, true, true, true, true, true, true, true, true, true, true] rfl rfl (any_of HT_.out (by kernel_rfl)) (fun _ _ _ h => h) (Or.inl ⟨by rfl, ?_⟩) ?_ ?_
     rotate_left
     ·intro w'
      go_simp
      with_reducible rfl
     rotate_left
     ·simp only [Act.put, List.setIfInBounds_toArray, List.set_cons_zero, List.set_cons_succ, i64_w]
      rfl
     refine done_ (done_of HT_.out (by kernel_rfl)) ?_
     try go_wp2
     go_ret
     exact ⟨by first | rfl | (simp [errW_none, errW_some] <;> rfl) | (simp [*, errW_none, errW_some] <;> rfl), by repeat (first | (with_reducible first | exact HB.out | apply below_alloc | apply pw_below_drewN | apply below_drew1 | refine below_set ?_ ae.out | refine below_set ?_ ah.out | refine below_set ?_ an.out) | exact HB.out)⟩
   ·rw [if_neg c14] at H
    have c14b0 : (t198.toList == t199.toList) = false := beq_eq_false_iff_ne.mpr c14
    have c14b1 : (t198.toList != t199.toList) = true := bne_iff_ne.mpr c14
    obtain rfl := Option.some.inj H
    go_enter Tryd.func3, Tryd.ntmps3
    try go_wp2_with (first | ((with_reducible refine gate_dst (N := 2) rfl ?_); refine box_event ?hg (N := 2) ?hd (cs := #[.int .u32 ai, .int .i64 aj]) (t := 24) ?hr ?_; (case hd => rfl); (case hg => rfl); (case hr => first | (go_simp; done) | (go_simp; rfl)); intro af hg w67 hbox hb; have n0_ := Aside0.mk (ke2b2.z HB.out hb rfl rfl rfl rfl); have n1_ := Aside0.mk (hbox); have n2_ := Aside0.mk ((by rw [hg]; exact (below_size (by repeat (first | (with_reducible first | exact HB.out | apply below_alloc | apply pw_below_drewN | apply below_drew1) | exact HB.out))) : w.heap.size ≤ af)); have n3_ := Aside0.mk ((by rw [hg]; exact (below_size (by repeat (first | (with_reducible first | exact HB.out | apply below_alloc | apply pw_below_drewN | apply below_drew1) | exact HB.out))) : w.heap.size ≤ af)); clear HB; have HB := n0_; have aa := n1_; have GW186 := n2_; have ae := n3_; clear n0_ n1_ n2_ n3_; clear hb hbox hg) | ((with_reducible refine gate_callee (f := 5) rfl ?_); refine goesL_ (some 15) rfl rfl Tryd.func5 (by kernel_rfl) rfl #[.string a1] rfl (by (try simp only [List.map_toArray, List.map_cons, List.map_nil]); first | done | rfl) ?_; (with_reducible refine (addr_Parse.calls k a1 t188 t189 t190 _ A7.out).mono ?_); rintro e w68 ⟨rfl, hb⟩; refine ⟨_, rfl, ?_⟩; replace aa := Aside0.mk (ke2b2.q aa.out hb rfl); replace HB := Aside0.mk (below_step (by repeat (first | (with_reducible first | exact HB.out | apply below_alloc | apply pw_below_drewN | apply below_drew1 | refine below_set ?_ ae.out) | exact HB.out)) hb); (try clear hb); (try clear ar); (try clear hk); (try clear hi)) | ((with_reducible refine gate_dst (N := 5) rfl ?_); refine box_event ?hg (N := 5) ?hd (cs := #[.int .u32 0, .int .i64 0]) (t := 24) ?hr ?_; (case hd => rfl); (case hg => rfl); (case hr => first | (go_simp; done) | (go_simp; rfl)); intro ag hg w69 hbox hb; have n0_ := Aside0.mk (ke2b2.q aa.out hb rfl); have n1_ := Aside0.mk (below_step (by repeat (first | (with_reducible first | exact HB.out | apply below_alloc | apply pw_below_drewN | apply below_drew1 | refine below_set ?_ ae.out) | exact HB.out)) hb); have n2_ := Aside0.mk (hbox); have n3_ := Aside0.mk ((by rw [hg]; exact (below_size (by repeat (first | (with_reducible first | exact HB.out | apply below_alloc | apply pw_below_drewN | apply below_drew1 | refine below_set ?_ ae.out) | exact HB.out))) : w.heap.size ≤ ag)); have n4_ := Aside0.mk ((by rw [hg]; exact (below_size (by repeat (first | (with_reducible first | exact HB.out | apply below_alloc | apply pw_below_drewN | apply below_drew1 | refine below_set ?_ ae.out) | exact HB.out))) : w.heap.size ≤ ag)); have n5_ := Aside0.mk ((by rw [hg]; exact Nat.ne_of_lt (blk_lt (g := af) (o := .cells #[.int .u32 ai, .int .i64 aj] 24 (0, 0)) (by (with_reducible repeat (first | refine blk_drewN ?_ _ | refine blk_drew ?_ | refine blk_alloc ?_ _)); exact aa.out)) : af ≠ ag)); have n6_ := Aside0.mk ((by rw [hg]; exact Nat.ne_of_gt (blk_lt (g := af) (o := .cells #[.int .u32 ai, .int .i64 aj] 24 (0, 0)) (by (with_reducible repeat (first | refine blk_drewN ?_ _ | refine blk_drew ?_ | refine blk_alloc ?_ _)); exact aa.out)) : ag ≠ af)); clear aa; clear HB; have aa := n0_; have HB := n1_; have ab := n2_; have GW191 := n3_; have ah := n4_; have ak := n5_; have ao := n6_; clear n0_ n1_ n2_ n3_ n4_ n5_ n6_; clear hb hbox hg; have hnb70 := ao.out; have hnc70 := ak.out; have hcz71_0 : w69.cell? ⟨ag, 0, none⟩ = some (.int .u32 0) := (blk_cell ab.out 0).trans rfl; have hcz71_1 : w69.cell? ⟨ag, 1, none⟩ = some (.int .i64 0) := (blk_cell ab.out 1).trans rfl; have hfz71_0 := blk_frozen ab.out 0; have hfz71_1 := blk_frozen ab.out 1) | ((with_reducible refine gate_callee (f := 6) rfl ?_); refine goesL_ (some 20) rfl rfl Tryd.func6 (by kernel_rfl) rfl #[.string a1] rfl (by (try simp only [List.map_toArray, List.map_cons, List.map_nil]); first | done | rfl) ?_; (with_reducible refine (whirligigref01_Parse.calls k a1 t192 t193 t194 _ A8.out).mono ?_); rintro e w72 ⟨rfl, hb⟩; refine ⟨_, rfl, ?_⟩; replace aa := Aside0.mk (blk_below (g := af) (o := .cells #[.int .u32 ai, .int .i64 aj] 24 (0, 0)) (by (with_reducible repeat (first | refine blk_drewN ?_ _ | refine blk_drew ?_ | refine blk_alloc ?_ _)); refine blk_far ?_ ak.out _; (with_reducible repeat (first | refine blk_drewN ?_ _ | refine blk_drew ?_ | refine blk_alloc ?_ _)); refine blk_far ?_ ak.out _; (with_reducible repeat (first | refine blk_drewN ?_ _ | refine blk_drew ?_ | refine blk_alloc ?_ _)); exact aa.out) hb); replace ab := Aside0.mk (blk_below (g := ag) (o := .cells #[.int .u32 t188, .int .i64 t189] 24 (0, 0)) (by (with_reducible repeat (first | refine blk_drewN ?_ _ | refine blk_drew ?_ | refine blk_alloc ?_ _)); refine blk_put (cs := #[.int .u32 t188, .int .i64 0]) ?_ 1 _ rfl; (with_reducible repeat (first | refine blk_drewN ?_ _ | refine blk_drew ?_ | refine blk_alloc ?_ _)); refine blk_put (cs := #[.int .u32 0, .int .i64 0]) ?_ 0 _ rfl; (with_reducible repeat (first | refine blk_drewN ?_ _ | refine blk_drew ?_ | refine blk_alloc ?_ _)); exact ab.out) hb); replace HB := Aside0.mk (below_step (by repeat (first | (with_reducible first | exact HB.out | apply below_alloc | apply pw_below_drewN | apply below_drew1 | refine below_set ?_ ae.out | refine below_set ?_ ah.out) | exact HB.out)) hb); (try clear hb); (try clear ar); (try clear hk); (try clear hi)) | ((with_reducible refine gate_dst (N := 7) rfl ?_); refine box_event ?hg (N := 7) ?hd (cs := #[.int .u32 0, .int .i64 0]) (t := 24) ?hr ?_; (case hd => rfl); (case hg => rfl); (case hr => first | (go_simp; done) | (go_simp; rfl)); intro ad hg w73 hbox hb; have n0_ := Aside0.mk (ke2b2.q aa.out hb rfl); have n1_ := Aside0.mk (ke2b2.q ab.out hb rfl); have n2_ := Aside0.mk (below_step (by repeat (first | (with_reducible first | exact HB.out | apply below_alloc | apply pw_below_drewN | apply below_drew1 | refine below_set ?_ ae.out | refine below_set ?_ ah.out) | exact HB.out)) hb); have n3_ := Aside0.mk (hbox); have n4_ := Aside0.mk ((by rw [hg]; exact (below_size (by repeat (first | (with_reducible first | exact HB.out | apply below_alloc | apply pw_below_drewN | apply below_drew1 | refine below_set ?_ ae.out | refine below_set ?_ ah.out) | exact HB.out))) : w.heap.size ≤ ad)); have n5_ := Aside0.mk ((by rw [hg]; exact (below_size (by repeat (first | (with_reducible first | exact HB.out | apply below_alloc | apply pw_below_drewN | apply below_drew1 | refine below_set ?_ ae.out | refine below_set ?_ ah.out) | exact HB.out))) : w.heap.size ≤ ad)); have n6_ := Aside0.mk ((by rw [hg]; exact Nat.ne_of_lt (blk_lt (g := af) (o := .cells #[.int .u32 ai, .int .i64 aj] 24 (0, 0)) (by (with_reducible repeat (first | refine blk_drewN ?_ _ | refine blk_drew ?_ | refine blk_alloc ?_ _)); exact aa.out)) : af ≠ ad)); have n7_ := Aside0.mk ((by rw [hg]; exact Nat.ne_of_gt (blk_lt (g := af) (o := .cells #[.int .u32 ai, .int .i64 aj] 24 (0, 0)) (by (with_reducible repeat (first | refine blk_drewN ?_ _ | refine blk_drew ?_ | refine blk_alloc ?_ _)); exact aa.out)) : ad ≠ af)); have n8_ := Aside0.mk ((by rw [hg]; exact Nat.ne_of_lt (blk_lt (g := ag) (o := .cells #[.int .u32 t188, .int .i64 t189] 24 (0, 0)) (by (with_reducible repeat (first | refine blk_drewN ?_ _ | refine blk_drew ?_ | refine blk_alloc ?_ _)); exact ab.out)) : ag ≠ ad)); have n9_ := Aside0.mk ((by rw [hg]; exact Nat.ne_of_gt (blk_lt (g := ag) (o := .cells #[.int .u32 t188, .int .i64 t189] 24 (0, 0)) (by (with_reducible repeat (first | refine blk_drewN ?_ _ | refine blk_drew ?_ | refine blk_alloc ?_ _)); exact ab.out)) : ad ≠ ag)); clear aa; clear ab; clear HB; have aa := n0_; have ab := n1_; have HB := n2_; have ac := n3_; have GW195 := n4_; have an := n5_; have al := n6_; have ap := n7_; have am := n8_; have aq := n9_; clear n0_ n1_ n2_ n3_ n4_ n5_ n6_ n7_ n8_ n9_; clear hb hbox hg; have hnb74 := ap.out; have hnc74 := al.out; have hnb75 := aq.out; have hnc75 := am.out; have hcz76_0 : w73.cell? ⟨ad, 0, none⟩ = some (.int .u32 0) := (blk_cell ac.out 0).trans rfl; have hcz76_1 : w73.cell? ⟨ad, 1, none⟩ = some (.int .i64 0) := (blk_cell ac.out 1).trans rfl; have hfz76_0 := blk_frozen ac.out 0; have hfz76_1 := blk_frozen ac.out 1))
    have n0_ : Aside0 (((w73.setCell ⟨ad, 0, none⟩ (.int .u32 t192)).setCell ⟨ad, 1, none⟩ (.int .i64 t193)).heap[af]? = some (.cells #[.int .u32 ai, .int .i64 aj] 24 (0, 0))) := ⟨by (with_reducible repeat (first | refine blk_drewN ?_ _ | refine blk_drew ?_ | refine blk_alloc ?_ _)); refine blk_far ?_ al.out _; (with_reducible repeat (first | refine blk_drewN ?_ _ | refine blk_drew ?_ | refine blk_alloc ?_ _)); refine blk_far ?_ al.out _; (with_reducible repeat (first | refine blk_drewN ?_ _ | refine blk_drew ?_ | refine blk_alloc ?_ _)); exact aa.out⟩
    have n1_ : Aside0 (((w73.setCell ⟨ad, 0, none⟩ (.int .u32 t192)).setCell ⟨ad, 1, none⟩ (.int .i64 t193)).heap[ag]? = some (.cells #[.int .u32 t188, .int .i64 t189] 24 (0, 0))) := ⟨by (with_reducible repeat (first | refine blk_drewN ?_ _ | refine blk_drew ?_ | refine blk_alloc ?_ _)); refine blk_far ?_ am.out _; (with_reducible repeat (first | refine blk_drewN ?_ _ | refine blk_drew ?_ | refine blk_alloc ?_ _)); refine blk_far ?_ am.out _; (with_reducible repeat (first | refine blk_drewN ?_ _ | refine blk_drew ?_ | refine blk_alloc ?_ _)); exact ab.out⟩
    have n2_ : Aside0 (((w73.setCell ⟨ad, 0, none⟩ (.int .u32 t192)).setCell ⟨ad, 1, none⟩ (.int .i64 t193)).heap[ad]? = some (.cells #[.int .u32 t192, .int .i64 t193] 24 (0, 0))) := ⟨by (with_reducible repeat (first | refine blk_drewN ?_ _ | refine blk_drew ?_ | refine blk_alloc ?_ _)); refine blk_put (cs := #[.int .u32 t192, .int .i64 0]) ?_ 1 _ rfl; (with_reducible repeat (first | refine blk_drewN ?_ _ | refine blk_drew ?_ | refine blk_alloc ?_ _)); refine blk_put (cs := #[.int .u32 0, .int .i64 0]) ?_ 0 _ rfl; (with_reducible repeat (first | refine blk_drewN ?_ _ | refine blk_drew ?_ | refine blk_alloc ?_ _)); exact ac.out⟩
    have n3_ : Aside0 (Below w.heap.size w ((w73.setCell ⟨ad, 0, none⟩ (.int .u32 t192)).setCell ⟨ad, 1, none⟩ (.int .i64 t193))) := ⟨by repeat (first | (with_reducible first | exact HB.out | apply below_alloc | apply pw_below_drewN | apply below_drew1 | refine below_set ?_ ae.out | refine below_set ?_ ah.out | refine below_set ?_ an.out) | exact HB.out)⟩
    (try clear aa)
    (try clear ab)
    (try clear ac)
    (try clear HB)
    generalize ((w73.setCell ⟨ad, 0, none⟩ (.int .u32 t192)).setCell ⟨ad, 1, none⟩ (.int .i64 t193)) = w77 at n0_ n1_ n2_ n3_ ⊢
    have aa := n0_
    have ab := n1_
    have ac := n2_
    have HB := n3_
    clear n0_ n1_ n2_ n3_
    replace aa := Aside0.mk (blk_drew aa.out)
    replace ab := Aside0.mk (blk_drew ab.out)
    replace ac := Aside0.mk (blk_drew ac.out)
    replace HB := Aside0.mk (below_drew1 HB.out)
    refine start_ (n := 26) (S := ke2b2.S1 af (.int .u32 ai) (.int .i64 aj)) (ds := []) #[false, false, false, false, false, false, false, false, false, false, false, false, false, false, false, false, false, false, false, false, false, false, false, false, false, false] (by kernel_rfl) rfl rfl (ke2b2.b2e aa.out) (fun hHeld => ?_); refine with_tabW whirligiglaw01_AddrTexts.tab5 whirligiglaw01_AddrTexts.bits5 (fun HT_ HW_ => ?_)
    generalize w77.drew = w78 at aa ab ac HB hHeld ⊢
    refine take_ (i := 0) (N := some 23) (v := ?_) (a' := ?_) #[true, false, false, false, false, false, false, false, false, false, false, false, false, false, false, false, false, false, false, false, false, false, false, false, false, false] rfl rfl (take_ofW HT_.out HW_.out (by kernel_rfl)) (fun _ _ _ h => h) (Or.inl ⟨by rfl, ?_⟩) hHeld ?_ ?_
    rotate_left
    ·rintro w' ⟨s0, s1⟩
     go_simp
     with_reducible rfl
    rotate_left
    ·simp only [Act.put, List.setIfInBounds_toArray, List.set_cons_zero, List.set_cons_succ, i64_w]
     rfl
    refine take_ (i := 2) (N := some 25) (v := ?_) (a' := ?_) #[true, false, true, false, false, false, false, false, false, false, false, false, false, false, false, false, false, false, false, false, false, false, false, false, false, false] rfl rfl (take_ofW HT_.out HW_.out (by kernel_rfl)) (fun _ _ _ h => h) (Or.inl ⟨by rfl, ?_⟩) hHeld ?_ ?_
    rotate_left
    ·rintro w' ⟨s0, s1⟩
     go_simp
     with_reducible rfl
    rotate_left
    ·simp only [Act.put, List.setIfInBounds_toArray, List.set_cons_zero, List.set_cons_succ, i64_w]
     rfl
    refine one_ (i := 1) (N := some 24) #[true, true, true, false, false, false, false, false, false, false, false, false, false, false, false, false, false, false, false, false, false, false, false, false, false, false] rfl rfl (one_of HT_.out (by kernel_rfl)) (by decide) (fun K hK => ?_)
    refine goes_ Tryd.func7 (by kernel_rfl) rfl #[.agg #[.int .u32 ai, .int .i64 aj]] (by rfl) rfl rfl (by (try simp only [List.map_toArray, List.map_cons, List.map_nil]); first | done | rfl) ?_
    with_reducible refine (addr_May.calls ai aj t196 _ A9.out).mono ?_
    rintro e w79 ⟨rfl, hb⟩
    refine ⟨_, rfl, ?_⟩
    replace aa := Aside0.mk (ke2b2.q aa.out hb rfl)
    replace ab := Aside0.mk (ke2b2.q ab.out hb rfl)
    replace ac := Aside0.mk (ke2b2.q ac.out hb rfl)
    replace HB := Aside0.mk (below_step (by repeat (first | (with_reducible first | exact HB.out | apply below_alloc | apply pw_below_drewN | apply below_drew1 | refine below_set ?_ ae.out | refine below_set ?_ ah.out | refine below_set ?_ an.out) | exact HB.out)) hb)
    (try clear hb)
    (try clear ar)
    (try clear hk)
    (try clear hi)
    refine hK.out _ _ (ke2b2.b2e aa.out) (fun hHeld => ?_)
    clear hK K
    refine norm_ (a' := ?_) ?_ ?_
    rotate_left
    ·show Act.put _ (some 24) _ = _
     simp only [Act.put, List.setIfInBounds_toArray, List.set_cons_zero, List.set_cons_succ, i64_w]
     rfl
    refine one_ (i := 3) (N := some 26) #[true, true, true, true, false, false, false, false, false, false, false, false, false, false, false, false, false, false, false, false, false, false, false, false, false, false] rfl rfl (one_of HT_.out (by kernel_rfl)) (by decide) (fun K hK => ?_)
    refine goes_ Tryd.func8 (by kernel_rfl) rfl #[.agg #[.int .u32 ai, .int .i64 aj]] (by rfl) rfl rfl (by (try simp only [List.map_toArray, List.map_cons, List.map_nil]); first | done | rfl) ?_
    with_reducible refine (whirligigref01_May.calls k ai aj t197 _ A10.out).mono ?_
    rintro e w80 ⟨rfl, hb⟩
    refine ⟨_, rfl, ?_⟩
    replace aa := Aside0.mk (ke2b2.q aa.out hb rfl)
    replace ab := Aside0.mk (ke2b2.q ab.out hb rfl)
    replace ac := Aside0.mk (ke2b2.q ac.out hb rfl)
    replace HB := Aside0.mk (below_step (by repeat (first | (with_reducible first | exact HB.out | apply below_alloc | apply pw_below_drewN | apply below_drew1 | refine below_set ?_ ae.out | refine below_set ?_ ah.out | refine below_set ?_ an.out) | exact HB.out)) hb)
    (try clear hb)
    (try clear ar)
    (try clear hk)
    (try clear hi)
    refine hK.out _ _ (ke2b2.b2e aa.out) (fun hHeld => ?_)
    clear hK K
    refine norm_ (a' := ?_) ?_ ?_
    rotate_left
    ·show Act.put _ (some 26) _ = _
     simp only [Act.put, List.setIfInBounds_toArray, List.set_cons_zero, List.set_cons_succ, i64_w]
     rfl
    refine pure_ (i := 4) (N := some 27) (v := ?_) (a' := ?_) #[true, true, true, true, true, false, false, false, false, false, false, false, false, false, false, false, false, false, false, false, false, false, false, false, false, false] rfl rfl (any_of HT_.out (by kernel_rfl)) (fun _ _ _ h => h) (Or.inl ⟨by rfl, ?_⟩) ?_ ?_
    rotate_left
    ·intro w'
     go_simp
     with_reducible rfl
    rotate_left
    ·simp only [Act.put, List.setIfInBounds_toArray, List.set_cons_zero, List.set_cons_succ, i64_w]
     rfl
    refine pure_ (i := 5) (N := some 28) (v := ?_) (a' := ?_) #[true, true, true, true, true, true, false, false, false, false, false, false, false, false, false, false, false, false, false, false, false, false, false, false, false, false] rfl rfl (any_of HT_.out (by kernel_rfl)) (fun _ _ _ h => h) (Or.inl ⟨by rfl, ?_⟩) ?_ ?_
    rotate_left
    ·intro w'
     go_simp
     with_reducible rfl
    rotate_left
    ·simp only [Act.put, List.setIfInBounds_toArray, List.set_cons_zero, List.set_cons_succ, i64_w]
     rfl
    refine take_ (i := 6) (N := some 29) (v := ?_) (a' := ?_) #[true, true, true, true, true, true, true, false, false, false, false, false, false, false, false, false, false, false, false, false, false, false, false, false, false, false] rfl rfl (take_ofW HT_.out HW_.out (by kernel_rfl)) (fun _ _ _ h => h) (Or.inl ⟨by rfl, ?_⟩) hHeld ?_ ?_
    rotate_left
    ·rintro w' ⟨s0, s1⟩
     go_simp
     with_reducible rfl
    rotate_left
    ·simp only [Act.put, List.setIfInBounds_toArray, List.set_cons_zero, List.set_cons_succ, i64_w]
     rfl
    refine take_ (i := 8) (N := some 31) (v := ?_) (a' := ?_) #[true, true, true, true, true, true, true, false, true, false, false, false, false, false, false, false, false, false, false, false, false, false, false, false, false, false] rfl rfl (take_ofW HT_.out HW_.out (by kernel_rfl)) (fun _ _ _ h => h) (Or.inl ⟨by rfl, ?_⟩) hHeld ?_ ?_
    rotate_left
    ·rintro w' ⟨s0, s1⟩
     go_simp
     with_reducible rfl
    rotate_left
    ·simp only [Act.put, List.setIfInBounds_toArray, List.set_cons_zero, List.set_cons_succ, i64_w]
     rfl
    refine one_ (i := 7) (N := some 30) #[true, true, true, true, true, true, true, true, true, false, false, false, false, false, false, false, false, false, false, false, false, false, false, false, false, false] rfl rfl (one_of HT_.out (by kernel_rfl)) (by decide) (fun K hK => ?_)
    refine goes_ Tryd.func9 (by kernel_rfl) rfl #[.agg #[.int .u32 ai, .int .i64 aj]] (by rfl) rfl rfl (by (try simp only [List.map_toArray, List.map_cons, List.map_nil]); first | done | rfl) ?_
    with_reducible refine (addr_Text.calls k ai aj t198 _ A12.out).mono ?_
    rintro e w81 ⟨rfl, hb⟩
    refine ⟨_, rfl, ?_⟩
    replace aa := Aside0.mk (ke2b2.q aa.out hb rfl)
    replace ab := Aside0.mk (ke2b2.q ab.out hb rfl)
    replace ac := Aside0.mk (ke2b2.q ac.out hb rfl)
    replace HB := Aside0.mk (below_step (by repeat (first | (with_reducible first | exact HB.out | apply below_alloc | apply pw_below_drewN | apply below_drew1 | refine below_set ?_ ae.out | refine below_set ?_ ah.out | refine below_set ?_ an.out) | exact HB.out)) hb)
    (try clear hb)
    (try clear ar)
    (try clear hk)
    (try clear hi)
    refine hK.out _ _ (ke2b2.b2e aa.out) (fun hHeld => ?_)
    clear hK K
    refine norm_ (a' := ?_) ?_ ?_
    rotate_left
    ·show Act.put _ (some 30) _ = _
     simp only [Act.put, List.setIfInBounds_toArray, List.set_cons_zero, List.set_cons_succ, i64_w]
     rfl
    refine one_ (i := 9) (N := some 32) #[true, true, true, true, true, true, true, true, true, true, false, false, false, false, false, false, false, false, false, false, false, false, false, false, false, false] rfl rfl (one_of HT_.out (by kernel_rfl)) (by decide) (fun K hK => ?_)
    refine goes_ Tryd.func10 (by kernel_rfl) rfl #[.agg #[.int .u32 ai, .int .i64 aj]] (by rfl) rfl rfl (by (try simp only [List.map_toArray, List.map_cons, List.map_nil]); first | done | rfl) ?_
    with_reducible refine (whirligigref01_Text.calls k ai aj t199 _ A13.out).mono ?_
    rintro e w82 ⟨rfl, hb⟩
    refine ⟨_, rfl, ?_⟩
    replace aa := Aside0.mk (ke2b2.q aa.out hb rfl)
    replace ab := Aside0.mk (ke2b2.q ab.out hb rfl)
    replace ac := Aside0.mk (ke2b2.q ac.out hb rfl)
    replace HB := Aside0.mk (below_step (by repeat (first | (with_reducible first | exact HB.out | apply below_alloc | apply pw_below_drewN | apply below_drew1 | refine below_set ?_ ae.out | refine below_set ?_ ah.out | refine below_set ?_ an.out) | exact HB.out)) hb)
    (try clear hb)
    (try clear ar)
    (try clear hk)
    (try clear hi)
    refine hK.out _ _ (ke2b2.b2e aa.out) (fun hHeld => ?_)
    clear hK K
    refine norm_ (a' := ?_) ?_ ?_
    rotate_left
    ·show Act.put _ (some 32) _ = _
     simp only [Act.put, List.setIfInBounds_toArray, List.set_cons_zero, List.set_cons_succ, i64_w]
     rfl
    refine pure_ (i := 10) (N := some 33) (v := ?_) (a' := ?_) #[true, true, true, true, true, true, true, true, true, true, true, false, false, false, false, false, false, false, false, false, false, false, false, false, false, false] rfl rfl (any_of HT_.out (by kernel_rfl)) (fun _ _ _ h => h) (Or.inl ⟨by rfl, ?_⟩) ?_ ?_
    rotate_left
    ·intro w'
     go_simp
     with_reducible rfl
    rotate_left
    ·simp only [Act.put, List.setIfInBounds_toArray, List.set_cons_zero, List.set_cons_succ, i64_w]
     rfl
    refine pure_ (i := 11) (N := some 34) (v := ?_) (a' := ?_) #[true, true, true, true, true, true, true, true, true, true, true, true, false, false, false, false, false, false, false, false, false, false, false, false, false, false] rfl rfl (any_of HT_.out (by kernel_rfl)) (fun _ _ _ h => h) (Or.inl ⟨by rfl, ?_⟩) ?_ ?_
    rotate_left
    ·intro w'
     go_simp
     with_reducible rfl
    rotate_left
    ·simp only [Act.put, List.setIfInBounds_toArray, List.set_cons_zero, List.set_cons_succ, i64_w]
     rfl
    refine pure_ (i := 12) (N := some 35) (v := ?_) (a' := ?_) #[true, true, true, true, true, true, true, true, true, true, true, true, true, false, false, false, false, false, false, false, false, false, false, false, false, false] rfl rfl (any_of HT_.out (by kernel_rfl)) (fun _ _ _ h => h) (Or.inl ⟨by rfl, ?_⟩) ?_ ?_
    rotate_left
    ·intro w'
     go_simp
     with_reducible rfl
    rotate_left
    ·simp only [Act.put, List.setIfInBounds_toArray, List.set_cons_zero, List.set_cons_succ, i64_w]
     rfl
    refine pure_ (i := 13) (N := some 36) (v := undef) (a' := ?_) #[true, true, true, true, true, true, true, true, true, true, true, true, true, true, false, false, false, false, false, false, false, false, false, false, false, false] rfl rfl (any_of HT_.out (by kernel_rfl)) (fun _ _ _ h => h) (Or.inr ⟨by rfl, rfl⟩) ?_ ?_
    rotate_left
    ·simp only [Act.put, List.setIfInBounds_toArray, List.set_cons_zero, List.set_cons_succ, i64_w]
     rfl
    refine pure_ (i := 14) (N := some 37) (v := undef) (a' := ?_) #[true, true, true, true, true, true, true, true, true, true, true, true, true, true, true, false, false, false, false, false, false, false, false, false, false, false] rfl rfl (any_of HT_.out (by kernel_rfl)) (fun _ _ _ h => h) (Or.inr ⟨by rfl, rfl⟩) ?_ ?_
    rotate_left
    ·simp only [Act.put, List.setIfInBounds_toArray, List.set_cons_zero, List.set_cons_succ, i64_w]
     rfl
    refine pure_ (i := 15) (N := some 38) (v := undef) (a' := ?_) #[true, true, true, true, true, true, true, true, true, true, true, true, true, true, true, true, false, false, false, false, false, false, false, false, false, false] rfl rfl (any_of HT_.out (by kernel_rfl)) (fun _ _ _ h => h) (Or.inr ⟨by rfl, rfl⟩) ?_ ?_
    rotate_left
    ·simp only [Act.put, List.setIfInBounds_toArray, List.set_cons_zero, List.set_cons_succ, i64_w]
     rfl
    refine pure_ (i := 16) (N := some 39) (v := ?_) (a' := ?_) #[true, true, true, true, true, true, true, true, true, true, true, true, true, true, true, true, true, false, false, false, false, false, false, false, false, false] rfl rfl (any_of HT_.out (by kernel_rfl)) (fun _ _ _ h => h) (Or.inl ⟨by rfl, ?_⟩) ?_ ?_
    rotate_left
    ·intro w'
     go_simp
     with_reducible rfl
    rotate_left
    ·simp only [Act.put, List.setIfInBounds_toArray, List.set_cons_zero, List.set_cons_succ, i64_w]
     rfl
    refine pure_ (i := 17) (N := some 40) (v := ?_) (a' := ?_) #[true, true, true, true, true, true, true, true, true, true, true, true, true, true, true, true, true, true, false, false, false, false, false, false, false, false] rfl rfl (any_of HT_.out (by kernel_rfl)) (fun _ _ _ h => h) (Or.inl ⟨by rfl, ?_⟩) ?_ ?_
    rotate_left
    ·intro w'
     go_simp
     with_reducible rfl
    rotate_left
    ·simp only [Act.put, List.setIfInBounds_toArray, List.set_cons_zero, List.set_cons_succ, i64_w]
     rfl
    refine pure_ (i := 18) (N := some 41) (v := undef) (a' := ?_) #[true, true, true, true, true, true, true, true, true, true, true, true, true, true, true, true, true, true, true, false, false, false, false, false, false, false] rfl rfl (any_of HT_.out (by kernel_rfl)) (fun _ _ _ h => h) (Or.inr ⟨by rfl, rfl⟩) ?_ ?_
    rotate_left
    ·simp only [Act.put, List.setIfInBounds_toArray, List.set_cons_zero, List.set_cons_succ, i64_w]
     rfl
    refine pure_ (i := 19) (N := some 42) (v := undef) (a' := ?_) #[true, true, true, true, true, true, true, true, true, true, true, true, true, true, true, true, true, true, true, true, false, false, false, false, false, false] rfl rfl (any_of HT_.out (by kernel_rfl)) (fun _ _ _ h => h) (Or.inr ⟨by rfl, rfl⟩) ?_ ?_
    rotate_left
    ·simp only [Act.put, List.setIfInBounds_toArray, List.set_cons_zero, List.set_cons_succ, i64_w]
     rfl
    refine pure_ (i := 20) (N := some 43) (v := undef) (a' := ?_) #[true, true, true, true, true, true, true, true, true, true, true, true, true, true, true, true, true, true, true, true, true, false, false, false, false, false] rfl rfl (any_of HT_.out (by kernel_rfl)) (fun _ _ _ h => h) (Or.inr ⟨by rfl, rfl⟩) ?_ ?_
    rotate_left
    ·simp only [Act.put, List.setIfInBounds_toArray, List.set_cons_zero, List.set_cons_succ, i64_w]
     rfl
    refine pure_ (i := 21) (N := some 44) (v := ?_) (a' := ?_) #[true, true, true, true, true, true, true, true, true, true, true, true, true, true, true, true, true, true, true, true, true, true, false, false, false, false] rfl rfl (any_of HT_.out (by kernel_rfl)) (fun _ _ _ h => h) (Or.inl ⟨by rfl, ?_⟩) ?_ ?_
    rotate_left
    ·intro w'
     go_simp
     with_reducible rfl
    rotate_left
    ·simp only [Act.put, List.setIfInBounds_toArray, List.set_cons_zero, List.set_cons_succ, i64_w]
     rfl
    refine pure_ (i := 22) (N := some 45) (v := ?_) (a' := ?_) #[true, true, true, true, true, true, true, true, true, true, true, true, true, true, true, true, true, true, true, true, true, true, true, false, false, false] rfl rfl (any_of HT_.out (by kernel_rfl)) (fun _ _ _ h => h) (Or.inl ⟨by rfl, ?_⟩) ?_ ?_
    rotate_left
    ·intro w'
     go_simp
     with_reducible rfl
    rotate_left
    ·simp only [Act.put, List.setIfInBounds_toArray, List.set_cons_zero, List.set_cons_succ, i64_w]
     rfl
    refine pure_ (i := 23) (N := some 46) (v := undef) (a' := ?_) #[true, true, true, true, true, true, true, true, true, true, true, true, true, true, true, true, true, true, true, true, true, true, true, true, false, false] rfl rfl (any_of HT_.out (by kernel_rfl)) (fun _ _ _ h => h) (Or.inr ⟨by rfl, rfl⟩) ?_ ?_
    rotate_left
    ·simp only [Act.put, List.setIfInBounds_toArray, List.set_cons_zero, List.set_cons_succ, i64_w]
     rfl
    refine pure_ (i := 24) (N := some 47) (v := ?_) (a' := ?_) #[true, true, true, true, true, true, true, true, true, true, true, true, true, true, true, true, true, true, true, true, true, true, true, true, true, false] rfl rfl (any_of HT_.out (by kernel_rfl)) (fun _ _ _ h => h) (Or.inl ⟨by rfl, ?_⟩) ?_ ?_
    rotate_left
    ·intro w'
     go_simp
     with_reducible rfl
    rotate_left
    ·simp only [Act.put, List.setIfInBounds_toArray, List.set_cons_zero, List.set_cons_succ, i64_w]
     rfl
    refine pure_ (i := 25) (N := some 4) (v := ?_) (a' := ?_) #[true, true, true, true, true, true, true, true, true, true, true, true, true, true, true, true, true, true, true, true, true, true, true, true, true, true] rfl rfl (any_of HT_.out (by kernel_rfl)) (fun _ _ _ h => h) (Or.inl ⟨by rfl, ?_⟩) ?_ ?_
    rotate_left
    ·intro w'
     go_simp
     with_reducible rfl
    rotate_left
    ·simp only [Act.put, List.setIfInBounds_toArray, List.set_cons_zero, List.set_cons_succ, i64_w]
     rfl
    refine done_ (done_of HT_.out (by kernel_rfl)) ?_
    try go_wp2
    go_ret
    exact ⟨by first | rfl | (simp [errW_none, errW_some] <;> rfl) | (simp [*, errW_none, errW_some] <;> rfl), by repeat (first | (with_reducible first | exact HB.out | apply below_alloc | apply pw_below_drewN | apply below_drew1 | refine below_set ?_ ae.out | refine below_set ?_ ah.out | refine below_set ?_ an.out) | exact HB.out)⟩
  ·rw [if_neg au] at H
   have c11b0 : (t196 == t197) = false := by simpa using au
   (try (have c11b1 : decide (t196 = t197) = false := by simpa using au))
   (try (have c11b2 : (t196 == t197) = false := by simpa using au))
   (try (have c11b3 : ¬ (t196 = t197) := by simpa using au))
   clear au
   obtain rfl := Option.some.inj H
   go_enter Tryd.func3, Tryd.ntmps3
   try go_wp2_with (first | ((with_reducible refine gate_dst (N := 2) rfl ?_); refine box_event ?hg (N := 2) ?hd (cs := #[.int .u32 ai, .int .i64 aj]) (t := 24) ?hr ?_; (case hd => rfl); (case hg => rfl); (case hr => first | (go_simp; done) | (go_simp; rfl)); intro af hg w83 hbox hb; have n0_ := Aside0.mk (ke2b2.z HB.out hb rfl rfl rfl rfl); have n1_ := Aside0.mk (hbox); have n2_ := Aside0.mk ((by rw [hg]; exact (below_size (by repeat (first | (with_reducible first | exact HB.out | apply below_alloc | apply pw_below_drewN | apply below_drew1) | exact HB.out))) : w.heap.size ≤ af)); have n3_ := Aside0.mk ((by rw [hg]; exact (below_size (by repeat (first | (with_reducible first | exact HB.out | apply below_alloc | apply pw_below_drewN | apply below_drew1) | exact HB.out))) : w.heap.size ≤ af)); clear HB; have HB := n0_; have aa := n1_; have GW186 := n2_; have ae := n3_; clear n0_ n1_ n2_ n3_; clear hb hbox hg) | ((with_reducible refine gate_callee (f := 5) rfl ?_); refine goesL_ (some 15) rfl rfl Tryd.func5 (by kernel_rfl) rfl #[.string a1] rfl (by (try simp only [List.map_toArray, List.map_cons, List.map_nil]); first | done | rfl) ?_; (with_reducible refine (addr_Parse.calls k a1 t188 t189 t190 _ A7.out).mono ?_); rintro e w84 ⟨rfl, hb⟩; refine ⟨_, rfl, ?_⟩; replace aa := Aside0.mk (ke2b2.q aa.out hb rfl); replace HB := Aside0.mk (below_step (by repeat (first | (with_reducible first | exact HB.out | apply below_alloc | apply pw_below_drewN | apply below_drew1 | refine below_set ?_ ae.out) | exact HB.out)) hb); (try clear hb); (try clear ar); (try clear hk); (try clear hi)) | ((with_reducible refine gate_dst (N := 5) rfl ?_); refine box_event ?hg (N := 5) ?hd (cs := #[.int .u32 0, .int .i64 0]) (t := 24) ?hr ?_; (case hd => rfl); (case hg => rfl); (case hr => first | (go_simp; done) | (go_simp; rfl)); intro ag hg w85 hbox hb; have n0_ := Aside0.mk (ke2b2.q aa.out hb rfl); have n1_ := Aside0.mk (below_step (by repeat (first | (with_reducible first | exact HB.out | apply below_alloc | apply pw_below_drewN | apply below_drew1 | refine below_set ?_ ae.out) | exact HB.out)) hb); have n2_ := Aside0.mk (hbox); have n3_ := Aside0.mk ((by rw [hg]; exact (below_size (by repeat (first | (with_reducible first | exact HB.out | apply below_alloc | apply pw_below_drewN | apply below_drew1 | refine below_set ?_ ae.out) | exact HB.out))) : w.heap.size ≤ ag)); have n4_ := Aside0.mk ((by rw [hg]; exact (below_size (by repeat (first | (with_reducible first | exact HB.out | apply below_alloc | apply pw_below_drewN | apply below_drew1 | refine below_set ?_ ae.out) | exact HB.out))) : w.heap.size ≤ ag)); have n5_ := Aside0.mk ((by rw [hg]; exact Nat.ne_of_lt (blk_lt (g := af) (o := .cells #[.int .u32 ai, .int .i64 aj] 24 (0, 0)) (by (with_reducible repeat (first | refine blk_drewN ?_ _ | refine blk_drew ?_ | refine blk_alloc ?_ _)); exact aa.out)) : af ≠ ag)); have n6_ := Aside0.mk ((by rw [hg]; exact Nat.ne_of_gt (blk_lt (g := af) (o := .cells #[.int .u32 ai, .int .i64 aj] 24 (0, 0)) (by (with_reducible repeat (first | refine blk_drewN ?_ _ | refine blk_drew ?_ | refine blk_alloc ?_ _)); exact aa.out)) : ag ≠ af)); clear aa; clear HB; have aa := n0_; have HB := n1_; have ab := n2_; have GW191 := n3_; have ah := n4_; have ak := n5_; have ao := n6_; clear n0_ n1_ n2_ n3_ n4_ n5_ n6_; clear hb hbox hg; have hnb86 := ao.out; have hnc86 := ak.out; have hcz87_0 : w85.cell? ⟨ag, 0, none⟩ = some (.int .u32 0) := (blk_cell ab.out 0).trans rfl; have hcz87_1 : w85.cell? ⟨ag, 1, none⟩ = some (.int .i64 0) := (blk_cell ab.out 1).trans rfl; have hfz87_0 := blk_frozen ab.out 0; have hfz87_1 := blk_frozen ab.out 1) | ((with_reducible refine gate_callee (f := 6) rfl ?_); refine goesL_ (some 20) rfl rfl Tryd.func6 (by kernel_rfl) rfl #[.string a1] rfl (by (try simp only [List.map_toArray, List.map_cons, List.map_nil]); first | done | rfl) ?_; (with_reducible refine (whirligigref01_Parse.calls k a1 t192 t193 t194 _ A8.out).mono ?_); rintro e w88 ⟨rfl, hb⟩; refine ⟨_, rfl, ?_⟩; replace aa := Aside0.mk (blk_below (g := af) (o := .cells #[.int .u32 ai, .int .i64 aj] 24 (0, 0)) (by (with_reducible repeat (first | refine blk_drewN ?_ _ | refine blk_drew ?_ | refine blk_alloc ?_ _)); refine blk_far ?_ ak.out _; (with_reducible repeat (first | refine blk_drewN ?_ _ | refine blk_drew ?_ | refine blk_alloc ?_ _)); refine blk_far ?_ ak.out _; (with_reducible repeat (first | refine blk_drewN ?_ _ | refine blk_drew ?_ | refine blk_alloc ?_ _)); exact aa.out) hb); replace ab := Aside0.mk (blk_below (g := ag) (o := .cells #[.int .u32 t188, .int .i64 t189] 24 (0, 0)) (by (with_reducible repeat (first | refine blk_drewN ?_ _ | refine blk_drew ?_ | refine blk_alloc ?_ _)); refine blk_put (cs := #[.int .u32 t188, .int .i64 0]) ?_ 1 _ rfl; (with_reducible repeat (first | refine blk_drewN ?_ _ | refine blk_drew ?_ | refine blk_alloc ?_ _)); refine blk_put (cs := #[.int .u32 0, .int .i64 0]) ?_ 0 _ rfl; (with_reducible repeat (first | refine blk_drewN ?_ _ | refine blk_drew ?_ | refine blk_alloc ?_ _)); exact ab.out) hb); replace HB := Aside0.mk (below_step (by repeat (first | (with_reducible first | exact HB.out | apply below_alloc | apply pw_below_drewN | apply below_drew1 | refine below_set ?_ ae.out | refine below_set ?_ ah.out) | exact HB.out)) hb); (try clear hb); (try clear ar); (try clear hk); (try clear hi)) | ((with_reducible refine gate_dst (N := 7) rfl ?_); refine box_event ?hg (N := 7) ?hd (cs := #[.int .u32 0, .int .i64 0]) (t := 24) ?hr ?_; (case hd => rfl); (case hg => rfl); (case hr => first | (go_simp; done) | (go_simp; rfl)); intro ad hg w89 hbox hb; have n0_ := Aside0.mk (ke2b2.q aa.out hb rfl); have n1_ := Aside0.mk (ke2b2.q ab.out hb rfl); have n2_ := Aside0.mk (below_step (by repeat (first | (with_reducible first | exact HB.out | apply below_alloc | apply pw_below_drewN | apply below_drew1 | refine below_set ?_ ae.out | refine below_set ?_ ah.out) | exact HB.out)) hb); have n3_ := Aside0.mk (hbox); have n4_ := Aside0.mk ((by rw [hg]; exact (below_size (by repeat (first | (with_reducible first | exact HB.out | apply below_alloc | apply pw_below_drewN | apply below_drew1 | refine below_set ?_ ae.out | refine below_set ?_ ah.out) | exact HB.out))) : w.heap.size ≤ ad)); have n5_ := Aside0.mk ((by rw [hg]; exact (below_size (by repeat (first | (with_reducible first | exact HB.out | apply below_alloc | apply pw_below_drewN | apply below_drew1 | refine below_set ?_ ae.out | refine below_set ?_ ah.out) | exact HB.out))) : w.heap.size ≤ ad)); have n6_ := Aside0.mk ((by rw [hg]; exact Nat.ne_of_lt (blk_lt (g := af) (o := .cells #[.int .u32 ai, .int .i64 aj] 24 (0, 0)) (by (with_reducible repeat (first | refine blk_drewN ?_ _ | refine blk_drew ?_ | refine blk_alloc ?_ _)); exact aa.out)) : af ≠ ad)); have n7_ := Aside0.mk ((by rw [hg]; exact Nat.ne_of_gt (blk_lt (g := af) (o := .cells #[.int .u32 ai, .int .i64 aj] 24 (0, 0)) (by (with_reducible repeat (first | refine blk_drewN ?_ _ | refine blk_drew ?_ | refine blk_alloc ?_ _)); exact aa.out)) : ad ≠ af)); have n8_ := Aside0.mk ((by rw [hg]; exact Nat.ne_of_lt (blk_lt (g := ag) (o := .cells #[.int .u32 t188, .int .i64 t189] 24 (0, 0)) (by (with_reducible repeat (first | refine blk_drewN ?_ _ | refine blk_drew ?_ | refine blk_alloc ?_ _)); exact ab.out)) : ag ≠ ad)); have n9_ := Aside0.mk ((by rw [hg]; exact Nat.ne_of_gt (blk_lt (g := ag) (o := .cells #[.int .u32 t188, .int .i64 t189] 24 (0, 0)) (by (with_reducible repeat (first | refine blk_drewN ?_ _ | refine blk_drew ?_ | refine blk_alloc ?_ _)); exact ab.out)) : ad ≠ ag)); clear aa; clear ab; clear HB; have aa := n0_; have ab := n1_; have HB := n2_; have ac := n3_; have GW195 := n4_; have an := n5_; have al := n6_; have ap := n7_; have am := n8_; have aq := n9_; clear n0_ n1_ n2_ n3_ n4_ n5_ n6_ n7_ n8_ n9_; clear hb hbox hg; have hnb90 := ap.out; have hnc90 := al.out; have hnb91 := aq.out; have hnc91 := am.out; have hcz92_0 : w89.cell? ⟨ad, 0, none⟩ = some (.int .u32 0) := (blk_cell ac.out 0).trans rfl; have hcz92_1 : w89.cell? ⟨ad, 1, none⟩ = some (.int .i64 0) := (blk_cell ac.out 1).trans rfl; have hfz92_0 := blk_frozen ac.out 0; have hfz92_1 := blk_frozen ac.out 1))
   have n0_ : Aside0 (((w89.setCell ⟨ad, 0, none⟩ (.int .u32 t192)).setCell ⟨ad, 1, none⟩ (.int .i64 t193)).heap[af]? = some (.cells #[.int .u32 ai, .int .i64 aj] 24 (0, 0))) := ⟨by (with_reducible repeat (first | refine blk_drewN ?_ _ | refine blk_drew ?_ | refine blk_alloc ?_ _)); refine blk_far ?_ al.out _; (with_reducible repeat (first | refine blk_drewN ?_ _ | refine blk_drew ?_ | refine blk_alloc ?_ _)); refine blk_far ?_ al.out _; (with_reducible repeat (first | refine blk_drewN ?_ _ | refine blk_drew ?_ | refine blk_alloc ?_ _)); exact aa.out⟩
   have n1_ : Aside0 (((w89.setCell ⟨ad, 0, none⟩ (.int .u32 t192)).setCell ⟨ad, 1, none⟩ (.int .i64 t193)).heap[ag]? = some (.cells #[.int .u32 t188, .int .i64 t189] 24 (0, 0))) := ⟨by (with_reducible repeat (first | refine blk_drewN ?_ _ | refine blk_drew ?_ | refine blk_alloc ?_ _)); refine blk_far ?_ am.out _; (with_reducible repeat (first | refine blk_drewN ?_ _ | refine blk_drew ?_ | refine blk_alloc ?_ _)); refine blk_far ?_ am.out _; (with_reducible repeat (first | refine blk_drewN ?_ _ | refine blk_drew ?_ | refine blk_alloc ?_ _)); exact ab.out⟩
   have n2_ : Aside0 (((w89.setCell ⟨ad, 0, none⟩ (.int .u32 t192)).setCell ⟨ad, 1, none⟩ (.int .i64 t193)).heap[ad]? = some (.cells #[.int .u32 t192, .int .i64 t193] 24 (0, 0))) := ⟨by (with_reducible repeat (first | refine blk_drewN ?_ _ | refine blk_drew ?_ | refine blk_alloc ?_ _)); refine blk_put (cs := #[.int .u32 t192, .int .i64 0]) ?_ 1 _ rfl; (with_reducible repeat (first | refine blk_drewN ?_ _ | refine blk_drew ?_ | refine blk_alloc ?_ _)); refine blk_put (cs := #[.int .u32 0, .int .i64 0]) ?_ 0 _ rfl; (with_reducible repeat (first | refine blk_drewN ?_ _ | refine blk_drew ?_ | refine blk_alloc ?_ _)); exact ac.out⟩
   have n3_ : Aside0 (Below w.heap.size w ((w89.setCell ⟨ad, 0, none⟩ (.int .u32 t192)).setCell ⟨ad, 1, none⟩ (.int .i64 t193))) := ⟨by repeat (first | (with_reducible first | exact HB.out | apply below_alloc | apply pw_below_drewN | apply below_drew1 | refine below_set ?_ ae.out | refine below_set ?_ ah.out | refine below_set ?_ an.out) | exact HB.out)⟩
   (try clear aa)
   (try clear ab)
   (try clear ac)
   (try clear HB)
   generalize ((w89.setCell ⟨ad, 0, none⟩ (.int .u32 t192)).setCell ⟨ad, 1, none⟩ (.int .i64 t193)) = w93 at n0_ n1_ n2_ n3_ ⊢
   have aa := n0_
   have ab := n1_
   have ac := n2_
   have HB := n3_
   clear n0_ n1_ n2_ n3_
   replace aa := Aside0.mk (blk_drew aa.out)
   replace ab := Aside0.mk (blk_drew ab.out)
   replace ac := Aside0.mk (blk_drew ac.out)
   replace HB := Aside0.mk (below_drew1 HB.out)
   refine start_ (n := 26) (S := ke2b2.S1 af (.int .u32 ai) (.int .i64 aj)) (ds := []) #[false, false, false, false, false, false, false, false, false, false, false, false, false, false, false, false, false, false, false, false, false, false, false, false, false, false] (by kernel_rfl) rfl rfl (ke2b2.b2e aa.out) (fun hHeld => ?_); refine with_tabW whirligiglaw01_AddrTexts.tab5 whirligiglaw01_AddrTexts.bits5 (fun HT_ HW_ => ?_)
   generalize w93.drew = w94 at aa ab ac HB hHeld ⊢
   refine take_ (i := 0) (N := some 23) (v := ?_) (a' := ?_) #[true, false, false, false, false, false, false, false, false, false, false, false, false, false, false, false, false, false, false, false, false, false, false, false, false, false] rfl rfl (take_ofW HT_.out HW_.out (by kernel_rfl)) (fun _ _ _ h => h) (Or.inl ⟨by rfl, ?_⟩) hHeld ?_ ?_
   rotate_left
   ·rintro w' ⟨s0, s1⟩
    go_simp
    with_reducible rfl
   rotate_left
   ·simp only [Act.put, List.setIfInBounds_toArray, List.set_cons_zero, List.set_cons_succ, i64_w]
    rfl
   refine take_ (i := 2) (N := some 25) (v := ?_) (a' := ?_) #[true, false, true, false, false, false, false, false, false, false, false, false, false, false, false, false, false, false, false, false, false, false, false, false, false, false] rfl rfl (take_ofW HT_.out HW_.out (by kernel_rfl)) (fun _ _ _ h => h) (Or.inl ⟨by rfl, ?_⟩) hHeld ?_ ?_
   rotate_left
   ·rintro w' ⟨s0, s1⟩
    go_simp
    with_reducible rfl
   rotate_left
   ·simp only [Act.put, List.setIfInBounds_toArray, List.set_cons_zero, List.set_cons_succ, i64_w]
    rfl
   refine one_ (i := 1) (N := some 24) #[true, true, true, false, false, false, false, false, false, false, false, false, false, false, false, false, false, false, false, false, false, false, false, false, false, false] rfl rfl (one_of HT_.out (by kernel_rfl)) (by decide) (fun K hK => ?_)
   refine goes_ Tryd.func7 (by kernel_rfl) rfl #[.agg #[.int .u32 ai, .int .i64 aj]] (by rfl) rfl rfl (by (try simp only [List.map_toArray, List.map_cons, List.map_nil]); first | done | rfl) ?_
   with_reducible refine (addr_May.calls ai aj t196 _ A9.out).mono ?_
   rintro e w95 ⟨rfl, hb⟩
   refine ⟨_, rfl, ?_⟩
   replace aa := Aside0.mk (ke2b2.q aa.out hb rfl)
   replace ab := Aside0.mk (ke2b2.q ab.out hb rfl)
   replace ac := Aside0.mk (ke2b2.q ac.out hb rfl)
   replace HB := Aside0.mk (below_step (by repeat (first | (with_reducible first | exact HB.out | apply below_alloc | apply pw_below_drewN | apply below_drew1 | refine below_set ?_ ae.out | refine below_set ?_ ah.out | refine below_set ?_ an.out) | exact HB.out)) hb)
   (try clear hb)
   (try clear ar)
   (try clear hk)
   (try clear hi)
   refine hK.out _ _ (ke2b2.b2e aa.out) (fun hHeld => ?_)
   clear hK K
   refine norm_ (a' := ?_) ?_ ?_
   rotate_left
   ·show Act.put _ (some 24) _ = _
    simp only [Act.put, List.setIfInBounds_toArray, List.set_cons_zero, List.set_cons_succ, i64_w]
    rfl
   refine one_ (i := 3) (N := some 26) #[true, true, true, true, false, false, false, false, false, false, false, false, false, false, false, false, false, false, false, false, false, false, false, false, false, false] rfl rfl (one_of HT_.out (by kernel_rfl)) (by decide) (fun K hK => ?_)
   refine goes_ Tryd.func8 (by kernel_rfl) rfl #[.agg #[.int .u32 ai, .int .i64 aj]] (by rfl) rfl rfl (by (try simp only [List.map_toArray, List.map_cons, List.map_nil]); first | done | rfl) ?_
   with_reducible refine (whirligigref01_May.calls k ai aj t197 _ A10.out).mono ?_
   rintro e w96 ⟨rfl, hb⟩
   refine ⟨_, rfl, ?_⟩
   replace aa := Aside0.mk (ke2b2.q aa.out hb rfl)
   replace ab := Aside0.mk (ke2b2.q ab.out hb rfl)
   replace ac := Aside0.mk (ke2b2.q ac.out hb rfl)
   replace HB := Aside0.mk (below_step (by repeat (first | (with_reducible first | exact HB.out | apply below_alloc | apply pw_below_drewN | apply below_drew1 | refine below_set ?_ ae.out | refine below_set ?_ ah.out | refine below_set ?_ an.out) | exact HB.out)) hb)
   (try clear hb)
   (try clear ar)
   (try clear hk)
   (try clear hi)
   refine hK.out _ _ (ke2b2.b2e aa.out) (fun hHeld => ?_)
   clear hK K
   refine norm_ (a' := ?_) ?_ ?_
   rotate_left
   ·show Act.put _ (some 26) _ = _
    simp only [Act.put, List.setIfInBounds_toArray, List.set_cons_zero, List.set_cons_succ, i64_w]
    rfl
   refine pure_ (i := 4) (N := some 27) (v := ?_) (a' := ?_) #[true, true, true, true, true, false, false, false, false, false, false, false, false, false, false, false, false, false, false, false, false, false, false, false, false, false] rfl rfl (any_of HT_.out (by kernel_rfl)) (fun _ _ _ h => h) (Or.inl ⟨by rfl, ?_⟩) ?_ ?_
   rotate_left
   ·intro w'
    go_simp
    with_reducible rfl
   rotate_left
   ·simp only [Act.put, List.setIfInBounds_toArray, List.set_cons_zero, List.set_cons_succ, i64_w]
    rfl
   refine pure_ (i := 5) (N := some 28) (v := ?_) (a' := ?_) #[true, true, true, true, true, true, false, false, false, false, false, false, false, false, false, false, false, false, false, false, false, false, false, false, false, false] rfl rfl (any_of HT_.out (by kernel_rfl)) (fun _ _ _ h => h) (Or.inl ⟨by rfl, ?_⟩) ?_ ?_
   rotate_left
   ·intro w'
    go_simp
    with_reducible rfl
   rotate_left
   ·simp only [Act.put, List.setIfInBounds_toArray, List.set_cons_zero, List.set_cons_succ, i64_w]
    rfl
   refine pure_ (i := 6) (N := some 29) (v := undef) (a' := ?_) #[true, true, true, true, true, true, true, false, false, false, false, false, false, false, false, false, false, false, false, false, false, false, false, false, false, false] rfl rfl (any_of HT_.out (by kernel_rfl)) (fun _ _ _ h => h) (Or.inr ⟨by rfl, rfl⟩) ?_ ?_
   rotate_left
   ·simp only [Act.put, List.setIfInBounds_toArray, List.set_cons_zero, List.set_cons_succ, i64_w]
    rfl
   refine pure_ (i := 7) (N := some 30) (v := undef) (a' := ?_) #[true, true, true, true, true, true, true, true, false, false, false, false, false, false, false, false, false, false, false, false, false, false, false, false, false, false] rfl rfl (any_of HT_.out (by kernel_rfl)) (fun _ _ _ h => h) (Or.inr ⟨by rfl, rfl⟩) ?_ ?_
   rotate_left
   ·simp only [Act.put, List.setIfInBounds_toArray, List.set_cons_zero, List.set_cons_succ, i64_w]
    rfl
   refine pure_ (i := 8) (N := some 31) (v := undef) (a' := ?_) #[true, true, true, true, true, true, true, true, true, false, false, false, false, false, false, false, false, false, false, false, false, false, false, false, false, false] rfl rfl (any_of HT_.out (by kernel_rfl)) (fun _ _ _ h => h) (Or.inr ⟨by rfl, rfl⟩) ?_ ?_
   rotate_left
   ·simp only [Act.put, List.setIfInBounds_toArray, List.set_cons_zero, List.set_cons_succ, i64_w]
    rfl
   refine pure_ (i := 9) (N := some 32) (v := undef) (a' := ?_) #[true, true, true, true, true, true, true, true, true, true, false, false, false, false, false, false, false, false, false, false, false, false, false, false, false, false] rfl rfl (any_of HT_.out (by kernel_rfl)) (fun _ _ _ h => h) (Or.inr ⟨by rfl, rfl⟩) ?_ ?_
   rotate_left
   ·simp only [Act.put, List.setIfInBounds_toArray, List.set_cons_zero, List.set_cons_succ, i64_w]
    rfl
   refine pure_ (i := 10) (N := some 33) (v := undef) (a' := ?_) #[true, true, true, true, true, true, true, true, true, true, true, false, false, false, false, false, false, false, false, false, false, false, false, false, false, false] rfl rfl (any_of HT_.out (by kernel_rfl)) (fun _ _ _ h => h) (Or.inr ⟨by rfl, rfl⟩) ?_ ?_
   rotate_left
   ·simp only [Act.put, List.setIfInBounds_toArray, List.set_cons_zero, List.set_cons_succ, i64_w]
    rfl
   refine pure_ (i := 11) (N := some 34) (v := ?_) (a' := ?_) #[true, true, true, true, true, true, true, true, true, true, true, true, false, false, false, false, false, false, false, false, false, false, false, false, false, false] rfl rfl (any_of HT_.out (by kernel_rfl)) (fun _ _ _ h => h) (Or.inl ⟨by rfl, ?_⟩) ?_ ?_
   rotate_left
   ·intro w'
    go_simp
    with_reducible rfl
   rotate_left
   ·simp only [Act.put, List.setIfInBounds_toArray, List.set_cons_zero, List.set_cons_succ, i64_w]
    rfl
   refine pure_ (i := 12) (N := some 35) (v := ?_) (a' := ?_) #[true, true, true, true, true, true, true, true, true, true, true, true, true, false, false, false, false, false, false, false, false, false, false, false, false, false] rfl rfl (any_of HT_.out (by kernel_rfl)) (fun _ _ _ h => h) (Or.inl ⟨by rfl, ?_⟩) ?_ ?_
   rotate_left
   ·intro w'
    go_simp
    with_reducible rfl
   rotate_left
   ·simp only [Act.put, List.setIfInBounds_toArray, List.set_cons_zero, List.set_cons_succ, i64_w]
    rfl
   refine pure_ (i := 13) (N := some 36) (v := undef) (a' := ?_) #[true, true, true, true, true, true, true, true, true, true, true, true, true, true, false, false, false, false, false, false, false, false, false, false, false, false] rfl rfl (any_of HT_.out (by kernel_rfl)) (fun _ _ _ h => h) (Or.inr ⟨by rfl, rfl⟩) ?_ ?_
   rotate_left
   ·simp only [Act.put, List.setIfInBounds_toArray, List.set_cons_zero, List.set_cons_succ, i64_w]
    rfl
   refine pure_ (i := 14) (N := some 37) (v := undef) (a' := ?_) #[true, true, true, true, true, true, true, true, true, true, true, true, true, true, true, false, false, false, false, false, false, false, false, false, false, false] rfl rfl (any_of HT_.out (by kernel_rfl)) (fun _ _ _ h => h) (Or.inr ⟨by rfl, rfl⟩) ?_ ?_
   rotate_left
   ·simp only [Act.put, List.setIfInBounds_toArray, List.set_cons_zero, List.set_cons_succ, i64_w]
    rfl
   refine pure_ (i := 15) (N := some 38) (v := undef) (a' := ?_) #[true, true, true, true, true, true, true, true, true, true, true, true, true, true, true, true, false, false, false, false, false, false, false, false, false, false] rfl rfl (any_of HT_.out (by kernel_rfl)) (fun _ _ _ h => h) (Or.inr ⟨by rfl, rfl⟩) ?_ ?_
   rotate_left
   ·simp only [Act.put, List.setIfInBounds_toArray, List.set_cons_zero, List.set_cons_succ, i64_w]
    rfl
   refine pure_ (i := 16) (N := some 39) (v := ?_) (a' := ?_) #[true, true, true, true, true, true, true, true, true, true, true, true, true, true, true, true, true, false, false, false, false, false, false, false, false, false] rfl rfl (any_of HT_.out (by kernel_rfl)) (fun _ _ _ h => h) (Or.inl ⟨by rfl, ?_⟩) ?_ ?_
   rotate_left
   ·intro w'
    go_simp
    with_reducible rfl
   rotate_left
   ·simp only [Act.put, List.setIfInBounds_toArray, List.set_cons_zero, List.set_cons_succ, i64_w]
    rfl
   refine pure_ (i := 17) (N := some 40) (v := ?_) (a' := ?_) #[true, true, true, true, true, true, true, true, true, true, true, true, true, true, true, true, true, true, false, false, false, false, false, false, false, false] rfl rfl (any_of HT_.out (by kernel_rfl)) (fun _ _ _ h => h) (Or.inl ⟨by rfl, ?_⟩) ?_ ?_
   rotate_left
   ·intro w'
    go_simp
    with_reducible rfl
   rotate_left
   ·simp only [Act.put, List.setIfInBounds_toArray, List.set_cons_zero, List.set_cons_succ, i64_w]
    rfl
   refine pure_ (i := 18) (N := some 41) (v := undef) (a' := ?_) #[true, true, true, true, true, true, true, true, true, true, true, true, true, true, true, true, true, true, true, false, false, false, false, false, false, false] rfl rfl (any_of HT_.out (by kernel_rfl)) (fun _ _ _ h => h) (Or.inr ⟨by rfl, rfl⟩) ?_ ?_
   rotate_left
   ·simp only [Act.put, List.setIfInBounds_toArray, List.set_cons_zero, List.set_cons_succ, i64_w]
    rfl
   refine pure_ (i := 19) (N := some 42) (v := undef) (a' := ?_) #[true, true, true, true, true, true, true, true, true, true, true, true, true, true, true, true, true, true, true, true, false, false, false, false, false, false] rfl rfl (any_of HT_.out (by kernel_rfl)) (fun _ _ _ h => h) (Or.inr ⟨by rfl, rfl⟩) ?_ ?_
   rotate_left
   ·simp only [Act.put, List.setIfInBounds_toArray, List.set_cons_zero, List.set_cons_succ, i64_w]
    rfl
   refine pure_ (i := 20) (N := some 43) (v := undef) (a' := ?_) #[true, true, true, true, true, true, true, true, true, true, true, true, true, true, true, true, true, true, true, true, true, false, false, false, false, false] rfl rfl (any_of HT_.out (by kernel_rfl)) (fun _ _ _ h => h) (Or.inr ⟨by rfl, rfl⟩) ?_ ?_
   rotate_left
   ·simp only [Act.put, List.setIfInBounds_toArray, List.set_cons_zero, List.set_cons_succ, i64_w]
    rfl
   refine pure_ (i := 21) (N := some 44) (v := ?_) (a' := ?_) #[true, true, true, true, true, true, true, true, true, true, true, true, true, true, true, true, true, true, true, true, true, true, false, false, false, false] rfl rfl (any_of HT_.out (by kernel_rfl)) (fun _ _ _ h => h) (Or.inl ⟨by rfl, ?_⟩) ?_ ?_
   rotate_left
   ·intro w'
    go_simp
    with_reducible rfl
   rotate_left
   ·simp only [Act.put, List.setIfInBounds_toArray, List.set_cons_zero, List.set_cons_succ, i64_w]
    rfl
   refine pure_ (i := 22) (N := some 45) (v := ?_) (a' := ?_) #[true, true, true, true, true, true, true, true, true, true, true, true, true, true, true, true, true, true, true, true, true, true, true, false, false, false] rfl rfl (any_of HT_.out (by kernel_rfl)) (fun _ _ _ h => h) (Or.inl ⟨by rfl, ?_⟩) ?_ ?_
   rotate_left
   ·intro w'
    go_simp
    with_reducible rfl
   rotate_left
   ·simp only [Act.put, List.setIfInBounds_toArray, List.set_cons_zero, List.set_cons_succ, i64_w]
    rfl
   refine pure_ (i := 23) (N := some 46) (v := undef) (a' := ?_) #[true, true, true, true, true, true, true, true, true, true, true, true, true, true, true, true, true, true, true, true, true, true, true, true, false, false] rfl rfl (any_of HT_.out (by kernel_rfl)) (fun _ _ _ h => h) (Or.inr ⟨by rfl, rfl⟩) ?_ ?_
   rotate_left
   ·simp only [Act.put, List.setIfInBounds_toArray, List.set_cons_zero, List.set_cons_succ, i64_w]
    rfl
   refine pure_ (i := 24) (N := some 47) (v := ?_) (a' := ?_) #[true, true, true, true, true, true, true, true, true, true, true, true, true, true, true, true, true, true, true, true, true, true, true, true, true, false] rfl rfl (any_of HT_.out (by kernel_rfl)) (fun _ _ _ h => h) (Or.inl ⟨by rfl, ?_⟩) ?_ ?_
   rotate_left
   ·intro w'
    go_simp
    with_reducible rfl
   rotate_left
   ·simp only [Act.put, List.setIfInBounds_toArray, List.set_cons_zero, List.set_cons_succ, i64_w]
    rfl
   refine pure_ (i := 25) (N := some 4) (v := ?_) (a' := ?_) #[true, true, true, true, true, true, true, true, true, true, true, true, true, true, true, true, true, true, true, true, true, true, true, true, true, true] rfl rfl (any_of HT_.out (by kernel_rfl)) (fun _ _ _ h => h) (Or.inl ⟨by rfl, ?_⟩) ?_ ?_
   rotate_left
   ·intro w'
    go_simp
    with_reducible rfl
   rotate_left
   ·simp only [Act.put, List.setIfInBounds_toArray, List.set_cons_zero, List.set_cons_succ, i64_w]
    rfl
   refine done_ (done_of HT_.out (by kernel_rfl)) ?_
   try go_wp2
   go_ret
   exact ⟨by first | rfl | (simp [errW_none, errW_some] <;> rfl) | (simp [*, errW_none, errW_some] <;> rfl), by repeat (first | (with_reducible first | exact HB.out | apply below_alloc | apply pw_below_drewN | apply below_drew1 | refine below_set ?_ ae.out | refine below_set ?_ ah.out | refine below_set ?_ an.out) | exact HB.out)⟩

end Go.Proofs.YtckffheolnmcnaaDoor.P

end
section
set_option linter.unusedVariables false
set_option linter.unusedSimpArgs false
namespace Go.Proofs.YtckffheolnmcnaaDoor
open Go.ChangeShapes Go.WideShapes Go.Proofs.YtckffheolnmcnaaDoorW.PrintWords Go.Proofs.YtckffheolnmcnaaDoorW.PrintLast Go.Proofs.YtckffheolnmcnaaDoorW.PrintMore

/-- the ints of a kind -/
def okI (k : IntKind) (n : Int) : Prop := (Lit.int k n).wf = true
def okS (s : ByteArray) : Prop := s.size ≤ 140737488351232
theorem okI_u32 {n : Int} (h : okI .u32 n) : 0 ≤ n ∧ n ≤ 4294967295 := by
  unfold okI Lit.wf at h; simp [IntKind.min, IntKind.max, IntKind.bits, IntKind.signed] at h; omega
/-- A reading of a type. -/
structure RV (P : Program) (t : TypeId) (α : Type) (d : Kd α) where
  ok : α → Prop
  sz : P.cellsOf t = d.sz
  opens : ∀ {H : Type} {enc : TypeId × Value → H} {w : World} {base : Nat} {spare : Nat → Bool} {held : Bool} {fuel : Nat} {cs : List Value} {x : DataW H × List MemPlace},
    DataW.trod enc P w base spare held fuel t cs = some x → (x.1.weights P t).all (· ≤ reachBytes) = true → ∃ a, d.K w a cs ∧ ok a
/-- A reading of a stretch of fields. -/
structure RF (P : Program) (fs : List Field) (off : Nat) (α : Type) where
  K : World → α → List Value → Prop
  ok : α → Prop
  opens : ∀ {H : Type} {enc : TypeId × Value → H} {w : World} {base : Nat} {spare : Nat → Bool} {held : Bool} {fuel : Nat} {cs : List Value} {ds : List (DataW H × List MemPlace)}, off ≤ cs.length →
    (∀ f, f ∈ fs → f.offset + P.cellsOf f.type ≤ cs.length) → (∀ (i : Nat) (f : Field), fs[i]? = some f → ∃ y, ds[i]? = some y ∧ DataW.trod enc P w base spare held fuel f.type ((cs.drop f.offset).take (P.cellsOf f.type)) = some y) →
    (DataW.weightsEach P (fs.map (·.type)) (ds.map (·.1))).all (· ≤ reachBytes) = true →
    (fs = [] → cs.length = off) → (∀ f, fs.getLast? = some f → f.offset + P.cellsOf f.type = cs.length) → ∃ a, K w a (cs.drop off) ∧ ok a

section
variable {P : Program} {t e : TypeId} {α β : Type} {d : Kd α}
def rInt (k : IntKind) (ht : P.underlying t = some (.int k)) (hc : P.cellsOf t = 1) : RV P t Int (Kd.int k) where
  ok := okI k
  sz := hc
  opens := fun h _ => by obtain ⟨n, h1, _, h3⟩ := DataW.trod_int ht h; exact ⟨n, h1, h3⟩
def fNil (off : Nat) : RF P [] off Unit where
  K := fun _ _ cs => cs = []
  ok := fun _ => True
  opens := fun _ _ _ _ h0 _ => ⟨(), by have := h0 rfl; simp [← this], trivial⟩
def fCons (f : Field) {fs : List Field} {off n : Nat} (ho : f.offset = off) (hn : P.cellsOf f.type = n) {d : Kd α} (V : RV P f.type α d) (F : RF P fs (off + n) β) : RF P (f :: fs) off (α × β) where
  K := fun w x cs => ∃ c c', cs = c ++ c' ∧ d.K w x.1 c ∧ F.K w x.2 c'
  ok := fun x => V.ok x.1 ∧ F.ok x.2
  opens := fun {H enc w base spare held fuel cs ds} hoff hle hy hw h0 hlast => by
    obtain ⟨y, hy1, hy0⟩ := hy 0 f rfl
    obtain ⟨ds, rfl⟩ : ∃ l, ds = y :: l := by
      cases ds with
      | nil => simp at hy1
      | cons z l => simp at hy1; subst hy1; exact ⟨l, rfl⟩
    rw [List.map_cons, List.map_cons, DataW.weightsEach, List.all_append, Bool.and_eq_true] at hw
    obtain ⟨a, ha, hka⟩ := V.opens hy0 hw.1
    have hl0 := hle f (by simp)
    rw [ho, hn] at hl0
    obtain ⟨b, hb, hkb⟩ := F.opens (cs := cs) (ds := ds) hl0 (fun g hg => hle g (by simp [hg])) (fun i g hg => hy (i + 1) g hg) hw.2 (fun h => by subst h; have := hlast f (by simp); rw [ho, hn] at this; exact this.symm)
      (fun g hg => hlast g (by cases fs with | nil => simp at hg | cons z zs => rw [List.getLast?_cons_cons]; exact hg))
    refine ⟨(a, b), ⟨(cs.drop off).take n, cs.drop (off + n), ?_, ?_, hb⟩, hka, hkb⟩
    · rw [← List.drop_drop, List.take_append_drop]
    · rw [ho, hn] at ha; exact ha
/-- the struct's cells end with its last field's -/
def fitsB (P : Program) (t : TypeId) (fs : List Field) : Bool := fs.all (fun f => decide (f.offset + P.cellsOf f.type ≤ P.cellsOf t)) && (match fs.getLast? with | some f => f.offset + P.cellsOf f.type == P.cellsOf t | none => P.cellsOf t == 0)
def rStruct {fs : Array Field} (ht : P.underlying t = some (.struct fs)) (hf : fitsB P t fs.toList = true) {d : Kd β} (hc : P.cellsOf t = d.sz) (F : RF P fs.toList 0 α) (f : α → β) (hK : ∀ w x cs, F.K w x cs → d.K w (f x) cs) (ok : β → Prop) (hok : ∀ x, F.ok x → ok (f x)) : RV P t β d where
  ok := ok
  sz := hc
  opens := fun {H enc w base spare held fuel cs x} h hw => by
    obtain ⟨xs, n, _, rfl, hl, hxl, hx⟩ := DataW.trod_struct ht h
    unfold fitsB at hf
    rw [Bool.and_eq_true] at hf
    obtain ⟨f1, f2⟩ := hf
    simp only [DataW.weights, ht] at hw
    obtain ⟨a, ha, hka⟩ := F.opens (enc := enc) (w := w) (base := base) (spare := spare) (held := held) (fuel := n) (cs := cs) (ds := xs) (Nat.zero_le _)
      (fun f hf => by rw [hl]; exact of_decide_eq_true (List.all_eq_true.1 f1 f hf))
      (fun i f hi => by
        have hi' : fs[i]? = some f := by rw [← Array.getElem?_toList]; exact hi
        have hlt : i < fs.size := by
          have := (List.getElem?_eq_some_iff.1 hi).1
          simpa using this
        have z := hx i f hi'
        rw [z]
        exact ⟨_, List.getElem?_eq_getElem (by omega), List.getElem?_eq_getElem (by omega)⟩)
      hw
      (fun h0 => by rw [h0] at f2; simp at f2; rw [hl]; exact f2)
      (fun f hf => by rw [hf] at f2; simp at f2; rw [hl]; exact f2)
    exact ⟨f a, hK _ _ _ (by simpa using ha), hok a hka⟩
end
end Go.Proofs.YtckffheolnmcnaaDoor

end
section
namespace Go.Proofs.YtckffheolnmcnaaDoor.P
open Go.Proofs.YtckffheolnmcnaaDoorW.PrintWords Go.Proofs.YtckffheolnmcnaaDoorW.PrintLast Go.Proofs.YtckffheolnmcnaaDoorW.PrintMore
set_option linter.unusedVariables false
def r22 : RV Tryd.prog 22 Int (Kd.int .u32) := rInt .u32 Tryd.underlying22 (by kernel_rfl)
def r3 : RV Tryd.prog 3 Int (Kd.int .i64) := rInt .i64 Tryd.underlying3 (by kernel_rfl)
def ok24 (x : S24) : Prop := (okI .u32) x.f0 ∧ (okI .i64) x.f1
def r24 : RV Tryd.prog 24 S24 k24 := rStruct Tryd.underlying24 (by kernel_rfl) (by kernel_rfl) (fCons (n := 1) _ rfl (by kernel_rfl) r22 (fCons (n := 1) _ rfl (by kernel_rfl) r3 (fNil _))) (fun x => ⟨x.1, x.2.1⟩) (by rintro w x cs ⟨c0, _, rfl, h0, c1, _, rfl, h1, rfl⟩; exact ⟨c0, _, rfl, h0, (by rw [List.append_nil]; exact h1)⟩) ok24 (fun x h => ⟨h.1, h.2.1⟩)
end Go.Proofs.YtckffheolnmcnaaDoor.P

end
section
namespace Go.Proofs.YtckffheolnmcnaaDoor.P
open Go.RowKit Go.Proofs.YtckffheolnmcnaaDoorW.PrintWords Go.Proofs.YtckffheolnmcnaaDoorW.PrintLast Go.Proofs.YtckffheolnmcnaaDoorW.PrintMore
set_option linter.unusedVariables false
set_option linter.unusedSimpArgs false

def tx (l : List UInt8) : ByteArray := ⟨l.toArray⟩
theorem tx_app (l m : List UInt8) : tx l ++ tx m = tx (l ++ m) := app_list l m
theorem tx_size (l : List UInt8) : (tx l).size = l.length := size_list l
end Go.Proofs.YtckffheolnmcnaaDoor.P

end
section
namespace Go.Proofs.YtckffheolnmcnaaDoor.P
open Go.RowKit Go.Proofs.YtckffheolnmcnaaDoorW.PrintWords Go.Proofs.YtckffheolnmcnaaDoorW.PrintLast Go.Proofs.YtckffheolnmcnaaDoorW.PrintMore
set_option linter.unusedVariables false
set_option linter.unusedSimpArgs false

theorem numL_rng (lim : Int) (h0 : 0 ≤ lim) (l : List UInt8) : 0 ≤ (numL lim l).1 ∧ (numL lim l).1 ≤ lim := by
  unfold numL
  split
  · exact ⟨Int.le_refl _, h0⟩
  · split
    · rename_i h; exact numF_rng lim h0 l 0 (Int.le_refl _) h0 h
    · exact ⟨Int.le_refl _, h0⟩
theorem indexByte_app (u v : List UInt8) (c : UInt8) (h : ∀ x, x ∈ u → x ≠ c) : Lib.indexByte (u ++ c :: v) c = u.length := by
  induction u with
  | nil => simp [Lib.indexByte]
  | cons a u ih =>
    have ha := h a (by simp)
    have hi := ih (fun x hx => h x (by simp [hx]))
    simp only [List.cons_append, Lib.indexByte]
    rw [if_neg (by simpa using ha), hi, if_neg (by simp only [beq_iff_eq]; omega)]
    simp
theorem indexByte_lt (l : List UInt8) (c : UInt8) : Lib.indexByte l c < (l.length : Int) ∨ l = [] := by
  by_cases h : l = []
  · exact .inr h
  · refine .inl ?_
    rcases Int.lt_or_le (Lib.indexByte l c) 0 with h1 | h1
    · have : 0 < l.length := List.length_pos_iff.2 h; omega
    · obtain ⟨o, ho⟩ := Int.eq_ofNat_of_zero_le h1
      have h2 := (Lib.indexByte_some ho).1
      have := (List.getElem?_eq_some_iff.1 h2).1
      omega
end Go.Proofs.YtckffheolnmcnaaDoor.P

end
section
namespace Go.Proofs.YtckffheolnmcnaaDoor.P
open Go.RowKit Go.Proofs.YtckffheolnmcnaaDoorW.PrintWords Go.Proofs.YtckffheolnmcnaaDoorW.PrintLast Go.Proofs.YtckffheolnmcnaaDoorW.PrintMore
set_option linter.unusedVariables false
set_option linter.unusedSimpArgs false

theorem idx_none (s : List UInt8) (c : UInt8) (h : ∀ x, x ∈ s → x ≠ c) : Lib.indexByte s c = -1 := by
  induction s with
  | nil => rfl
  | cons a s ih =>
    have ha := h a (by simp)
    have hi := ih (fun x hx => h x (by simp [hx]))
    simp only [Lib.indexByte]
    rw [if_neg (by simpa using ha), hi, if_pos (by decide)]
theorem cut_or (s : List UInt8) (c : UInt8) : (∀ x, x ∈ s → x ≠ c) ∨ ∃ u v, (∀ x, x ∈ u → x ≠ c) ∧ s = u ++ c :: v := by
  induction s with
  | nil => exact .inl fun x hx => by cases hx
  | cons a s ih =>
    by_cases ha : a = c
    · exact .inr ⟨[], s, fun x hx => (by cases hx), by rw [ha]; rfl⟩
    · rcases ih with h | ⟨u, v, h, e⟩
      · refine .inl fun x hx => ?_
        rcases List.mem_cons.1 hx with rfl | hx
        · exact ha
        · exact h x hx
      · refine .inr ⟨a :: u, v, fun x hx => ?_, by rw [e]; rfl⟩
        rcases List.mem_cons.1 hx with rfl | hx
        · exact ha
        · exact h x hx
theorem sp_none (s : List UInt8) (c : UInt8) (h : ∀ x, x ∈ s → x ≠ c) : Lib.split s [c] = [s] := by
  have e : Lib.index s [c] = -1 := by rw [Lib.index_one, idx_none s c h]
  unfold Lib.split
  rw [Lib.count_miss e]; rfl
theorem sp_app (u v : List UInt8) (c : UInt8) (h : ∀ x, x ∈ u → x ≠ c) : Lib.split (u ++ c :: v) [c] = u :: Lib.split v [c] := by
  have e : Lib.index (u ++ c :: v) [c] = (u.length : Int) := by rw [Lib.index_one, indexByte_app u v c h]
  have e2 : (u ++ c :: v).drop (u.length + 1) = v := by
    rw [List.drop_append, List.drop_eq_nil_of_le (by omega), List.nil_append, show u.length + 1 - u.length = 1 by omega]; rfl
  unfold Lib.split
  rw [Lib.count_hit (by simp) e]
  show Lib.splitK [c] 0 (1 + Lib.count ((u ++ c :: v).drop (u.length + 1)) [c]) (u ++ c :: v) = _
  rw [e2, Nat.add_comm, Lib.splitK, if_neg (by rw [e]; simp only [beq_iff_eq]; omega), e]
  simp only [Int.toNat_natCast, Nat.add_zero, List.take_left]
  show u :: Lib.splitK [c] 0 _ ((u ++ c :: v).drop (u.length + 1)) = _
  rw [e2]
theorem sp_cons (s p : List UInt8) (ps : List (List UInt8)) (c : UInt8) (h : Lib.split s [c] = p :: ps) : (ps = [] ∧ s = p) ∨ ∃ v, s = p ++ c :: v ∧ Lib.split v [c] = ps := by
  rcases cut_or s c with h1 | ⟨u, v, h1, rfl⟩
  · rw [sp_none s c h1] at h
    injection h with h2 h3
    exact .inl ⟨h3.symm, h2⟩
  · rw [sp_app u v c h1] at h
    injection h with h2 h3
    exact .inr ⟨v, by rw [h2], h3⟩
theorem sp_ne (s : List UInt8) (c : UInt8) : Lib.split s [c] ≠ [] := by
  rcases cut_or s c with h1 | ⟨u, v, h1, rfl⟩
  · rw [sp_none s c h1]; simp
  · rw [sp_app u v c h1]; simp
theorem sp_four (s p0 p1 p2 p3 : List UInt8) (c : UInt8) (h : Lib.split s [c] = [p0, p1, p2, p3]) : s = p0 ++ c :: (p1 ++ c :: (p2 ++ c :: p3)) := by
  rcases sp_cons s p0 [p1, p2, p3] c h with ⟨h, _⟩ | ⟨v, e0, h⟩
  · cases h
  rcases sp_cons v p1 [p2, p3] c h with ⟨h, _⟩ | ⟨v1, e1, h⟩
  · cases h
  rcases sp_cons v1 p2 [p3] c h with ⟨h, _⟩ | ⟨v2, e2, h⟩
  · cases h
  rcases sp_cons v2 p3 [] c h with ⟨_, h⟩ | ⟨v3, e3, h⟩
  · rw [e0, e1, e2, h]
  · exact absurd h (sp_ne _ _)
/-- a number's text -/
def isN (l : List UInt8) : Bool := (numL 1000 l).2
def vaN (l : List UInt8) : Int := (numL 1000 l).1
theorem isN_iff (l : List UInt8) : isN l = true ↔ l ≠ [] ∧ ¬ (1 < l.length ∧ l.head? = some 48) ∧ l.all isDg = true := by
  unfold isN numL
  by_cases h : l = [] ∨ (1 < l.length ∧ l.head? = some 48)
  · rw [if_pos h]
    constructor
    · intro e; cases e
    · rintro ⟨h1, h2, _⟩
      rcases h with h | h
      · exact absurd h h1
      · exact absurd h h2
  · rw [if_neg h]
    by_cases h2 : l.all isDg = true
    · rw [if_pos h2]; exact ⟨fun _ => ⟨fun e => h (.inl e), fun e => h (.inr e), h2⟩, fun _ => rfl⟩
    · rw [if_neg h2]; exact ⟨fun e => (by cases e), fun e => absurd e.2.2 h2⟩
theorem isN_dg {l : List UInt8} (h : isN l = true) : ∀ x, x ∈ l → isDg x = true := fun x hx => List.all_eq_true.1 ((isN_iff l).1 h).2.2 x hx
theorem isN_no {l : List UInt8} (h : isN l = true) (c : UInt8) (hc : isDg c = false) : ∀ x, x ∈ l → x ≠ c := fun x hx e => by have := isN_dg h x hx; rw [e, hc] at this; cases this
theorem vaN_rng (l : List UInt8) : 0 ≤ vaN l ∧ vaN l ≤ 1000 := numL_rng 1000 (by decide) l
/-- five numbers between points and a stroke -/
def Fm (s : List UInt8) (n : Int × Int × Int × Int × Int) : Prop := ∃ d0 d1 d2 d3 d4, s = d0 ++ 46 :: (d1 ++ 46 :: (d2 ++ 46 :: (d3 ++ 47 :: d4))) ∧ isN d0 = true ∧ isN d1 = true ∧ isN d2 = true ∧ isN d3 = true ∧ isN d4 = true ∧ n = (vaN d0, vaN d1, vaN d2, vaN d3, vaN d4)
/-- what the program reads -/
def prs (s : List UInt8) : Option (Int × Int × Int × Int × Int) :=
  if 0 ≤ Lib.indexByte s 47 then
    match Lib.split (s.take (Lib.indexByte s 47).toNat) [46] with
    | [p0, p1, p2, p3] => if isN p0 = true ∧ isN p1 = true ∧ isN p2 = true ∧ isN p3 = true ∧ isN (s.drop ((Lib.indexByte s 47).toNat + 1)) = true then some (vaN p0, vaN p1, vaN p2, vaN p3, vaN (s.drop ((Lib.indexByte s 47).toNat + 1))) else none
    | _ => none
  else none
theorem idx_at (s : List UInt8) (c : UInt8) (h : 0 ≤ Lib.indexByte s c) : s = s.take (Lib.indexByte s c).toNat ++ c :: s.drop ((Lib.indexByte s c).toNat + 1) := by
  obtain ⟨o, ho⟩ := Int.eq_ofNat_of_zero_le h
  have h2 := (Lib.indexByte_some ho).1
  rw [ho, Int.toNat_natCast]
  obtain ⟨h3, h4⟩ := List.getElem?_eq_some_iff.1 h2
  have h5 : s.drop o = c :: s.drop (o + 1) := by rw [← h4]; exact List.drop_eq_getElem_cons h3
  rw [← h5, List.take_append_drop]
theorem prs_sound (s : List UInt8) (n : Int × Int × Int × Int × Int) (h : prs s = some n) : Fm s n := by
  unfold prs at h
  split at h
  · rename_i hi
    have he := idx_at s 47 hi
    generalize s.take (Lib.indexByte s 47).toNat = a at *
    generalize s.drop ((Lib.indexByte s 47).toNat + 1) = b at *
    split at h
    · rename_i p0 p1 p2 p3 hp
      split at h
      · rename_i hh
        have ha := sp_four _ _ _ _ _ _ hp
        refine ⟨p0, p1, p2, p3, b, ?_, hh.1, hh.2.1, hh.2.2.1, hh.2.2.2.1, hh.2.2.2.2, (Option.some.inj h).symm⟩
        rw [he, ha]; simp
      · cases h
    · cases h
  · cases h
theorem prs_full (s : List UInt8) (n : Int × Int × Int × Int × Int) (h : Fm s n) : prs s = some n := by
  obtain ⟨d0, d1, d2, d3, d4, rfl, h0, h1, h2, h3, h4, rfl⟩ := h
  have e : d0 ++ 46 :: (d1 ++ 46 :: (d2 ++ 46 :: (d3 ++ 47 :: d4))) = (d0 ++ 46 :: (d1 ++ 46 :: (d2 ++ 46 :: d3))) ++ 47 :: d4 := by simp
  have hno : ∀ x, x ∈ (d0 ++ 46 :: (d1 ++ 46 :: (d2 ++ 46 :: d3))) → x ≠ 47 := by
    intro x hx
    simp only [List.mem_append, List.mem_cons] at hx
    rcases hx with hx | rfl | hx | rfl | hx | rfl | hx
    · exact isN_no h0 47 (by decide) x hx
    · decide
    · exact isN_no h1 47 (by decide) x hx
    · decide
    · exact isN_no h2 47 (by decide) x hx
    · decide
    · exact isN_no h3 47 (by decide) x hx
  have hi := indexByte_app _ d4 47 hno
  rw [← e] at hi
  unfold prs
  rw [hi, if_pos (by omega), Int.toNat_natCast]
  have t1 : (d0 ++ 46 :: (d1 ++ 46 :: (d2 ++ 46 :: (d3 ++ 47 :: d4)))).take (d0 ++ 46 :: (d1 ++ 46 :: (d2 ++ 46 :: d3))).length = d0 ++ 46 :: (d1 ++ 46 :: (d2 ++ 46 :: d3)) := by
    rw [e, List.take_left]
  have t2 : (d0 ++ 46 :: (d1 ++ 46 :: (d2 ++ 46 :: (d3 ++ 47 :: d4)))).drop ((d0 ++ 46 :: (d1 ++ 46 :: (d2 ++ 46 :: d3))).length + 1) = d4 := by
    rw [e]
    generalize (d0 ++ 46 :: (d1 ++ 46 :: (d2 ++ 46 :: d3))) = u
    rw [List.drop_append, List.drop_eq_nil_of_le (by omega), List.nil_append, show u.length + 1 - u.length = 1 by omega]; rfl
  rw [t1, t2, sp_app _ _ _ (isN_no h0 46 (by decide)), sp_app _ _ _ (isN_no h1 46 (by decide)), sp_app _ _ _ (isN_no h2 46 (by decide)), sp_none _ _ (isN_no h3 46 (by decide))]
  exact if_pos ⟨h0, h1, h2, h3, h4⟩
/-- what the document reads: one number behind the other -/
def sq : List UInt8 → List UInt8 → Option (List Int)
  | [], t => if isN t = true then some [vaN t] else none
  | c :: cs, t => if isN (t.takeWhile isDg) = true then
      match t.dropWhile isDg with
      | b :: r => if b = c then (sq cs r).map fun l => vaN (t.takeWhile isDg) :: l else none
      | [] => none
    else none
def fiv (s : List UInt8) : Option (Int × Int × Int × Int × Int) := match sq [46, 46, 46, 47] s with
  | some [a, b, c, d, e] => some (a, b, c, d, e)
  | _ => none
theorem tw_app (d r : List UInt8) (c : UInt8) (h : ∀ x, x ∈ d → isDg x = true) (hc : isDg c = false) : (d ++ c :: r).takeWhile isDg = d ∧ (d ++ c :: r).dropWhile isDg = c :: r := by
  induction d with
  | nil => simp [hc]
  | cons a d ih =>
    have ha := h a (by simp)
    obtain ⟨h1, h2⟩ := ih (fun x hx => h x (by simp [hx]))
    simp [ha, h1, h2]
theorem sq_step (d r : List UInt8) (c : UInt8) (cs : List UInt8) (h : isN d = true) (hc : isDg c = false) : sq (c :: cs) (d ++ c :: r) = (sq cs r).map fun l => vaN d :: l := by
  obtain ⟨h1, h2⟩ := tw_app d r c (isN_dg h) hc
  rw [sq, h1, h2, if_pos h]
  exact if_pos rfl
theorem fiv_full (s : List UInt8) (n : Int × Int × Int × Int × Int) (h : Fm s n) : fiv s = some n := by
  obtain ⟨d0, d1, d2, d3, d4, rfl, h0, h1, h2, h3, h4, rfl⟩ := h
  unfold fiv
  rw [sq_step _ _ _ _ h0 (by decide), sq_step _ _ _ _ h1 (by decide), sq_step _ _ _ _ h2 (by decide), sq_step _ _ _ _ h3 (by decide), sq, if_pos h4]
  rfl
theorem sq_inv (c : UInt8) (cs t : List UInt8) (l : List Int) (h : sq (c :: cs) t = some l) : ∃ d r m, t = d ++ c :: r ∧ isN d = true ∧ sq cs r = some m ∧ l = vaN d :: m := by
  rw [sq] at h
  split at h
  · rename_i hn
    split at h
    · rename_i b r hr
      split at h
      · rename_i hb
        subst hb
        cases hm : sq cs r with
        | none => rw [hm] at h; cases h
        | some m =>
          rw [hm] at h
          refine ⟨_, r, m, ?_, hn, hm, (Option.some.inj h).symm⟩
          rw [← hr, List.takeWhile_append_dropWhile]
      · cases h
    · cases h
  · cases h
theorem fiv_sound (s : List UInt8) (n : Int × Int × Int × Int × Int) (h : fiv s = some n) : Fm s n := by
  unfold fiv at h
  split at h
  · rename_i a b c d e hq
    obtain ⟨d0, r, m, rfl, h0, hq, e0⟩ := sq_inv _ _ _ _ hq
    obtain ⟨d1, r, m, rfl, h1, hq, e1⟩ := sq_inv _ _ _ _ hq
    obtain ⟨d2, r, m, rfl, h2, hq, e2⟩ := sq_inv _ _ _ _ hq
    obtain ⟨d3, r, m, rfl, h3, hq, e3⟩ := sq_inv _ _ _ _ hq
    rw [sq] at hq
    split at hq
    · rename_i h4
      have e4 := Option.some.inj hq
      refine ⟨d0, d1, d2, d3, r, rfl, h0, h1, h2, h3, h4, ?_⟩
      rw [← e4] at e3
      rw [e3] at e2
      rw [e2] at e1
      rw [e1] at e0
      cases e0
      exact (Option.some.inj h).symm
    · cases hq
  · cases h
theorem fiv_prs (s : List UInt8) : fiv s = prs s := by
  cases h : fiv s with
  | some n => exact (prs_full s n (fiv_sound s n h)).symm
  | none =>
    cases h2 : prs s with
    | none => rfl
    | some n => rw [fiv_full s n (prs_sound s n h2)] at h; cases h
/-- five numbers' text -/
def tx5 (a b c d e : Nat) : List UInt8 := dig a ++ 46 :: (dig b ++ 46 :: (dig c ++ 46 :: (dig d ++ 47 :: dig e)))
end Go.Proofs.YtckffheolnmcnaaDoor.P

end
section
set_option linter.unusedVariables false
set_option linter.unusedSimpArgs false
namespace Go.Proofs.YtckffheolnmcnaaDoor.P
open Go.RowKit Go.Proofs.YtckffheolnmcnaaDoorW.PrintWords Go.Proofs.YtckffheolnmcnaaDoorW.PrintLast Go.Proofs.YtckffheolnmcnaaDoorW.PrintMore

/-- how many addresses a prefix of so many bits has -/
def un (b : Int) : Int := 2 ^ (32 - b).toNat
theorem un_pos (b : Int) : 0 < un b := by
  unfold un
  have := Nat.two_pow_pos (32 - b).toNat
  have h2 : (0 : Int) < (((2 : Nat) ^ (32 - b).toNat : Nat) : Int) := by exact_mod_cast this
  simpa using h2
theorem un_succ (b : Int) (h : b < 32) : un b = 2 * un (b + 1) := by
  unfold un
  rw [show (32 - b).toNat = (32 - (b + 1)).toNat + 1 by omega, Int.pow_succ]; omega
/-- an address -/
def isA (a : Int) : Prop := 0 ≤ a ∧ a ≤ 4294967295
/-- may a prefix be? -/
def mayB (a b : Int) : Bool := decide (0 ≤ b) && (decide (b ≤ 32) && decide (a % un b = 0))
theorem mayB_iff (a b : Int) : mayB a b = true ↔ 0 ≤ b ∧ b ≤ 32 ∧ a % un b = 0 := by
  unfold mayB; simp
theorem mask_is (b : Int) (h0 : 0 ≤ b) (h1 : b ≤ 32) : addr_mask.f b = some (4294967296 - un b) := by
  unfold addr_mask.f
  by_cases h : b = 0
  · subst h; rfl
  · rw [if_neg h, wrap64_in _ (by omega) (by omega), if_pos (by omega)]
    have := shl_all (32 - b).toNat (by omega)
    rw [show (((32 - b).toNat : Nat) : Int) = 32 - b by omega] at this
    rw [this]; rfl
theorem may_is (a b : Int) (ha : isA a) : addr_May.f a b = some (mayB a b) := by
  unfold addr_May.f mayB
  by_cases h0 : 0 ≤ b
  · rw [if_pos h0]
    by_cases h1 : b ≤ 32
    · rw [if_pos h1, mask_is b h0 h1, Option.bind_some]
      have := andNot_mask a (32 - b).toNat ha.1 (by have := ha.2; omega) (by omega)
      unfold un
      rw [this]
      simp [h0, h1]
      rfl
    · rw [if_neg h1]; simp [h0, h1]
  · rw [if_neg h0]; simp [h0]
end Go.Proofs.YtckffheolnmcnaaDoor.P

end
section
set_option linter.unusedVariables false
set_option linter.unusedSimpArgs false
namespace Go.Proofs.YtckffheolnmcnaaDoor.P
open Go.RowKit Go.Proofs.YtckffheolnmcnaaDoorW.PrintWords Go.Proofs.YtckffheolnmcnaaDoorW.PrintLast Go.Proofs.YtckffheolnmcnaaDoorW.PrintMore

/-- what comes of five numbers -/
def adr (a b c d : Int) : Int := a * 16777216 + b * 65536 + c * 256 + d
def big (n : Int × Int × Int × Int × Int) : Bool := decide (255 < n.1) || decide (255 < n.2.1) || decide (255 < n.2.2.1) || decide (255 < n.2.2.2.1) || decide (32 < n.2.2.2.2)
def fin5 (n : Int × Int × Int × Int × Int) : Int × Int × Int :=
  if big n = true then (0, 0, 7) else if mayB (adr n.1 n.2.1 n.2.2.1 n.2.2.2.1) n.2.2.2.2 = true then (adr n.1 n.2.1 n.2.2.1 n.2.2.2.1, n.2.2.2.2, 0) else (0, 0, 1)
def parL (s : List UInt8) : Int × Int × Int := match prs s with
  | none => (0, 0, 4)
  | some n => fin5 n
theorem prs_rng (s : List UInt8) (n : Int × Int × Int × Int × Int) (h : prs s = some n) : (0 ≤ n.1 ∧ n.1 ≤ 1000) ∧ (0 ≤ n.2.1 ∧ n.2.1 ≤ 1000) ∧ (0 ≤ n.2.2.1 ∧ n.2.2.1 ≤ 1000) ∧ (0 ≤ n.2.2.2.1 ∧ n.2.2.2.1 ≤ 1000) ∧ (0 ≤ n.2.2.2.2 ∧ n.2.2.2.2 ≤ 1000) := by
  obtain ⟨d0, d1, d2, d3, d4, _, _, _, _, _, _, rfl⟩ := prs_sound s n h
  exact ⟨vaN_rng d0, vaN_rng d1, vaN_rng d2, vaN_rng d3, vaN_rng d4⟩
end Go.Proofs.YtckffheolnmcnaaDoor.P

end
section
set_option linter.unusedVariables false
set_option linter.unusedSimpArgs false
namespace Go.Proofs.YtckffheolnmcnaaDoor.P
open Go.RowKit Go.Proofs.YtckffheolnmcnaaDoorW.PrintWords Go.Proofs.YtckffheolnmcnaaDoorW.PrintLast Go.Proofs.YtckffheolnmcnaaDoorW.PrintMore

/-- the bit of an address at a place -/
def bitI (a i : Int) : Int := a / un (i + 1) % 2
theorem bit_ev : ∀ (d : Nat) (a i : Int), 0 ≤ a → a ≤ 4294967295 → 0 ≤ i → i ≤ 31 → 31 - i = d → Evt (fun k => whirligigref01_Bit.l0 k a i) (bitI a i) := by
  intro d
  induction d with
  | zero =>
    intro a i h0 h1 h2 h3 hd
    obtain rfl : i = 31 := by omega
    refine Evt.step ?_
    simp only [whirligigref01_Bit.l0]
    refine Evt.ite_neg (by omega) (Evt.of fun k => ?_)
    unfold bitI un
    rw [Int.tmod_eq_emod_of_nonneg h0]
    simp
  | succ d ih =>
    intro a i h0 h1 h2 h3 hd
    refine Evt.step ?_
    simp only [whirligigref01_Bit.l0]
    refine Evt.ite_pos (by omega) ?_
    rw [Int.tdiv_eq_ediv_of_nonneg h0, wrap64_in _ (by omega) (by omega), Int.emod_eq_of_lt (by omega) (by omega)]
    have := ih (a / 2) (i + 1) (by omega) (by omega) (by omega) (by omega) (by omega)
    have e : bitI (a / 2) (i + 1) = bitI a i := by
      unfold bitI
      rw [un_succ (i + 1) (by omega), Int.ediv_ediv_of_nonneg (by decide)]
    rw [e] at this
    exact this
theorem refBit_ev (a i : Int) (ha : isA a) (h2 : 0 ≤ i) (h3 : i ≤ 31) : Evt (fun k => whirligigref01_Bit.f k a i) (bitI a i) :=
  bit_ev (31 - i).toNat a i ha.1 ha.2 h2 h3 (by omega)
theorem mod_un (a i : Int) (h : 0 ≤ a) (h1 : i ≤ 31) : a % un i = a % un (i + 1) + un (i + 1) * bitI a i := by
  have hp := un_pos (i + 1)
  rw [un_succ i (by omega)]
  unfold bitI
  have e1 := Int.emod_add_mul_ediv a (un (i + 1))
  have e2 := Int.emod_add_mul_ediv a (2 * un (i + 1))
  have e3 := Int.emod_add_mul_ediv (a / un (i + 1)) 2
  have e4 : a / un (i + 1) / 2 = a / (2 * un (i + 1)) := by rw [Int.ediv_ediv_of_nonneg (Int.le_of_lt hp), Int.mul_comm]
  rw [e4] at e3
  generalize a / (2 * un (i + 1)) = q at *
  generalize a / un (i + 1) % 2 = s at *
  generalize a / un (i + 1) = p at *
  generalize un (i + 1) = u at *
  have e5 : u * p = u * s + 2 * u * q := by
    rw [← e3, Int.mul_add, ← Int.mul_assoc, Int.mul_comm u 2]
  omega
theorem refMayLoop_ev : ∀ (d : Nat) (a i b : Int), isA a → 0 ≤ i → i ≤ 32 → 32 - i = d → Evt (fun k => whirligigref01_May.l0 k i a b) (decide (a % un i = 0)) := by
  intro d
  induction d with
  | zero =>
    intro a i b ha h0 h1 hd
    obtain rfl : i = 32 := by omega
    refine Evt.step ?_
    simp only [whirligigref01_May.l0]
    refine Evt.ite_neg (by omega) (Evt.of fun k => ?_)
    have : a % un 32 = 0 := by show a % 1 = 0; omega
    rw [this]; rfl
  | succ d ih =>
    intro a i b ha h0 h1 hd
    refine Evt.step ?_
    simp only [whirligigref01_May.l0]
    refine Evt.ite_pos (by omega) ?_
    refine Evt.bind (refBit_ev a i ha h0 (by omega)) ?_
    have hm := mod_un a i ha.1 (by omega)
    have hp := un_pos (i + 1)
    have hr : 0 ≤ a % un (i + 1) := Int.emod_nonneg _ (by omega)
    by_cases hb : bitI a i = 0
    · refine Evt.ite_pos hb ?_
      rw [wrap64_in _ (by omega) (by omega)]
      have := ih a (i + 1) b ha (by omega) (by omega) (by omega)
      rw [hb, Int.mul_zero, Int.add_zero] at hm
      rw [hm]; exact this
    · refine Evt.ite_neg hb (Evt.of fun k => ?_)
      have hb1 : bitI a i = 1 := by unfold bitI at *; omega
      rw [hb1, Int.mul_one] at hm
      rw [decide_eq_false (by omega)]
theorem refMay_ev (a b : Int) (ha : isA a) : Evt (fun k => whirligigref01_May.f k a b) (mayB a b) := by
  unfold whirligigref01_May.f mayB
  by_cases h0 : b < 0
  · refine Evt.ite_pos h0 (Evt.step ?_)
    simp only [whirligigref01_May.j0]
    refine Evt.ite_pos (by simp) (Evt.of fun k => ?_)
    rw [decide_eq_false (by omega : ¬ 0 ≤ b)]; rfl
  · refine Evt.ite_neg h0 (Evt.step ?_)
    simp only [whirligigref01_May.j0]
    by_cases h1 : b > 32
    · refine Evt.ite_pos (decide_eq_true h1) (Evt.of fun k => ?_)
      rw [decide_eq_false (by omega : ¬ b ≤ 32)]; simp
    · refine Evt.ite_neg (by simpa using h1) ?_
      have := refMayLoop_ev (32 - b).toNat a b b ha (by omega) (by omega) (by omega)
      rw [decide_eq_true (by omega : 0 ≤ b), decide_eq_true (by omega : b ≤ 32)]
      exact this
end Go.Proofs.YtckffheolnmcnaaDoor.P

end
section
namespace Go.Proofs.YtckffheolnmcnaaDoor.P
open Go.RowKit Go.Proofs.YtckffheolnmcnaaDoorW.PrintWords Go.Proofs.YtckffheolnmcnaaDoorW.PrintLast Go.Proofs.YtckffheolnmcnaaDoorW.PrintMore
set_option linter.unusedVariables false
set_option linter.unusedSimpArgs false

theorem num1 (n : Nat) (h : n < 10) : strOfNums [(wrap64 (48 + (n : Int))) % 256] = tx [48 + UInt8.ofNat n] := by
  have e : (wrap64 (48 + (n : Int))) % 256 = 48 + n := by rw [wrap64_in _ (by omega) (by omega)]; omega
  rw [e, ← byte_dig n h]; rfl
theorem number_ev : ∀ (m n : Nat) (s : List UInt8), n < 10 ^ (m + 1) → n ≤ 9223372036854775807 → m + 1 + s.length ≤ 9223372036854775807 →
    Evt (fun k => whirligigref01_Number.l0 k (n : Int) (tx s)) (tx (dig n ++ s)) := by
  intro m
  induction m with
  | zero =>
    intro n s h h1 h2
    refine Evt.step ?_
    simp only [whirligigref01_Number.l0]
    have hn : n < 10 := by simpa using h
    refine Evt.ite_neg (by omega) (Evt.bindc rfl ?_)
    rw [num1 n hn, dig_small n hn, tx_app, tx_size, tx_size]
    exact Evt.ite_pos (by simp; omega) (Evt.pure _)
  | succ m ih =>
    intro n s h h1 h2
    refine Evt.step ?_
    simp only [whirligigref01_Number.l0]
    by_cases hn : n < 10
    · refine Evt.ite_neg (by omega) (Evt.bindc rfl ?_)
      rw [num1 n hn, dig_small n hn, tx_app, tx_size, tx_size]
      exact Evt.ite_pos (by simp; omega) (Evt.pure _)
    · refine Evt.ite_pos (by omega) (Evt.bindc rfl ?_)
      have e : Int.tmod (n : Int) 10 = ((n % 10 : Nat) : Int) := by rw [Int.tmod_eq_emod_of_nonneg (by omega)]; omega
      have e2 : Int.tdiv (n : Int) 10 = ((n / 10 : Nat) : Int) := by rw [Int.tdiv_eq_ediv_of_nonneg (by omega)]; omega
      rw [e, e2, num1 _ (by omega), tx_app, tx_size, tx_size, wrap64_in _ (by omega) (by omega), dig_big n hn]
      refine Evt.ite_pos (by simp; omega) ?_
      have := ih (n / 10) ([48 + UInt8.ofNat (n % 10)] ++ s) (by rw [Nat.pow_succ] at h; omega) (by omega) (by simp; omega)
      rw [List.append_assoc]
      exact this
theorem refNumber_ev (n : Int) (h0 : 0 ≤ n) (h1 : n ≤ 9223372036854775807) : Evt (fun k => whirligigref01_Number.f k n) (tx (dig n.toNat)) := by
  obtain ⟨n, rfl⟩ := Int.eq_ofNat_of_zero_le h0
  have := number_ev 18 n [] (by have : (10 : Nat) ^ 19 = 10000000000000000000 := by decide
                                omega) (by omega) (by simp)
  rw [List.append_nil] at this
  exact this
end Go.Proofs.YtckffheolnmcnaaDoor.P

end
section
set_option linter.unusedVariables false
set_option linter.unusedSimpArgs false
namespace Go.Proofs.YtckffheolnmcnaaDoor.P
open Go.RowKit Go.Proofs.YtckffheolnmcnaaDoorW.PrintWords Go.Proofs.YtckffheolnmcnaaDoorW.PrintLast Go.Proofs.YtckffheolnmcnaaDoorW.PrintMore

theorem aNum_is (l : List UInt8) (h : l.length ≤ 100000) : addr_number.f (tx l) = some (vaN l, isN l) := by
  unfold addr_number.f
  rw [if_pos (by rw [tx_size]; omega)]; rfl
theorem rd_tx (l : List (List UInt8)) (i : Nat) (p : List UInt8) (h : l[i]? = some p) : rdOf ByteArray.empty (l.map tx) (i : Int) = tx p := by
  unfold rdOf
  rw [Int.toNat_natCast, List.getD_eq_getElem?_getD, List.getElem?_map, h]; rfl
/-- the address behind one number more -/
def nx (a n : Int) : Int := Go.bits .or .u32 ((a * 256) % 4294967296) (n % 4294967296)
theorem nx_is (a n : Int) (ha : 0 ≤ a) (ha1 : a ≤ 16777215) (hn : 0 ≤ n) (hn1 : n ≤ 255) : nx a n = a * 256 + n := by
  unfold nx
  rw [Int.emod_eq_of_lt (by omega) (by omega), Int.emod_eq_of_lt (by omega) (by omega)]
  exact or_join (a * 256) n 8 (by omega) (by omega) (by omega) (by omega) hn (by omega)
theorem parStep (l : List (List UInt8)) (hl : l.length = 5) (hs : ∀ p, p ∈ l → p.length ≤ 100000) (i : Nat) (hi : i < 4) (p : List UInt8) (hp : l[i]? = some p) (w : Bool) (a b : Int) (R : Int × Int × Int)
    (h0 : isN p = false → R = (0, 0, 4)) (h1 : isN p = true → Evt (fun k => addr_Parse.l0 k (w || decide (vaN p > 255)) (l.map tx) 5 ((i + 1 : Nat) : Int) (nx a (vaN p)) b) R) :
    Evt (fun k => addr_Parse.l0 k w (l.map tx) 5 (i : Int) a b) R := by
  have hm : p ∈ l := List.mem_of_getElem? hp
  refine Evt.step ?_
  simp only [addr_Parse.l0]
  refine Evt.ite_pos (by omega) (Evt.ite_pos (by omega) (Evt.ite_pos (by rw [List.length_map, hl]; omega) ?_))
  rw [rd_tx l i p hp]
  refine Evt.bindc (aNum_is p (hs p hm)) ?_
  rw [wrap64_in ((i : Int) + 1) (by omega) (by omega), show (i : Int) + 1 = ((i + 1 : Nat) : Int) by omega]
  by_cases hn : isN p = true
  · have h1 := h1 hn
    refine Evt.ite_pos hn (Evt.ite_pos (by omega) ?_)
    cases w with
    | true => rw [Bool.true_or] at h1; exact Evt.ite_pos rfl h1
    | false => rw [Bool.false_or] at h1; exact Evt.ite_neg (by simp) h1
  · rw [h0 (Bool.eq_false_iff.mpr hn)]
    exact Evt.ite_neg hn (Evt.pure _)
theorem parLast (l : List (List UInt8)) (hl : l.length = 5) (hs : ∀ p, p ∈ l → p.length ≤ 100000) (p : List UInt8) (hp : l[4]? = some p) (w : Bool) (a b : Int) (R : Int × Int × Int)
    (h0 : isN p = false → R = (0, 0, 4)) (h1 : isN p = true → Evt (fun k => addr_Parse.l0 k (w || decide (vaN p > 32)) (l.map tx) 5 5 a (vaN p)) R) :
    Evt (fun k => addr_Parse.l0 k w (l.map tx) 5 4 a b) R := by
  have hm : p ∈ l := List.mem_of_getElem? hp
  refine Evt.step ?_
  simp only [addr_Parse.l0]
  refine Evt.ite_pos (by omega) (Evt.ite_pos (by omega) (Evt.ite_pos (by rw [List.length_map, hl]; omega) ?_))
  rw [show (4 : Int) = ((4 : Nat) : Int) from rfl, rd_tx l 4 p hp]
  refine Evt.bindc (aNum_is p (hs p hm)) ?_
  rw [show wrap64 (((4 : Nat) : Int) + 1) = 5 from wrap64_in _ (by omega) (by omega)]
  by_cases hn : isN p = true
  · have h1 := h1 hn
    refine Evt.ite_pos hn (Evt.ite_neg (by omega) ?_)
    cases w with
    | true => rw [Bool.true_or] at h1; exact Evt.ite_pos rfl h1
    | false => rw [Bool.false_or] at h1; exact Evt.ite_neg (by simp) h1
  · rw [h0 (Bool.eq_false_iff.mpr hn)]
    exact Evt.ite_neg hn (Evt.pure _)
theorem parEnd (l : List (List UInt8)) (w : Bool) (a b : Int) (R : Int × Int × Int) (h0 : w = true → R = (0, 0, 7)) (h1 : w = false → isA a ∧ R = if mayB a b = true then (a, b, 0) else (0, 0, 1)) :
    Evt (fun k => addr_Parse.l0 k w (l.map tx) 5 5 a b) R := by
  refine Evt.step ?_
  simp only [addr_Parse.l0]
  refine Evt.ite_neg (by omega) ?_
  cases w with
  | true => rw [h0 rfl]; exact Evt.ite_pos rfl (Evt.pure _)
  | false =>
    obtain ⟨hA, hR⟩ := h1 rfl
    refine Evt.ite_neg (by simp) (Evt.bindc (may_is a b hA) ?_)
    by_cases hm : mayB a b = true
    · have hR2 : R = (a, b, 0) := by rw [hR, if_pos hm]
      rw [hR2]; exact Evt.ite_pos hm (Evt.pure _)
    · have hR2 : R = (0, 0, 1) := by rw [hR, if_neg hm]
      rw [hR2]; exact Evt.ite_neg hm (Evt.pure _)
/-- a text in lists, out of a text of bytes -/
theorem map_tx_of (l : List ByteArray) (m : List (List UInt8)) (h : l.map (·.data.toList) = m) : l = m.map tx := by
  subst h
  rw [List.map_map]
  conv => lhs; rw [← List.map_id l]
  apply List.map_congr_left
  intro x _
  show x = tx x.data.toList
  unfold tx
  simp
theorem split_is (a : List UInt8) (ha : a.length ≤ 5000) (c : UInt8) : strings_Split.f (tx a) ⟨#[c]⟩ = some ((Lib.split a [c]).map tx) := by
  have e1 : ((⟨#[c]⟩ : ByteArray)).data.toList = [c] := rfl
  have e2 : (tx a).data.toList = a := by simp [tx]
  unfold strings_Split.f
  rw [e1]
  simp only
  rw [if_pos (by rw [tx_size]; omega)]
  have := Lib.splitB_data ⟨#[c]⟩ 0 (Lib.countB (tx a) ⟨#[c]⟩) (tx a)
  rw [e1, e2] at this
  have hc : Lib.countB (tx a) ⟨#[c]⟩ = Lib.count a [c] := by
    show Lib.count (tx a).data.toList [c] = _
    rw [e2]
  rw [map_tx_of _ _ this, hc]; rfl
theorem split_mem (a : List UInt8) (c : UInt8) (p : List UInt8) (h : p ∈ Lib.split a [c]) : p.length ≤ a.length := by
  have key : ∀ (n : Nat) (a : List UInt8), a.length ≤ n → p ∈ Lib.split a [c] → p.length ≤ a.length := by
    intro n
    induction n with
    | zero =>
      intro a ha hp
      have : a = [] := List.length_eq_zero_iff.1 (by omega)
      subst this
      rw [sp_none [] c (fun x hx => by cases hx)] at hp
      simp at hp; rw [hp]; simp
    | succ n ih =>
      intro a ha hp
      rcases cut_or a c with h1 | ⟨u, v, h1, rfl⟩
      · rw [sp_none a c h1] at hp
        simp at hp; rw [hp]; exact Nat.le_refl _
      · rw [sp_app u v c h1] at hp
        rcases List.mem_cons.1 hp with rfl | hp
        · simp
        · have h2 := ih v (by simp at ha; omega) hp
          simp; omega
  exact key a.length a (Nat.le_refl _) h
theorem split_len (a : List UInt8) (c : UInt8) : (Lib.split a [c]).length ≤ a.length + 1 := by
  have key : ∀ (n : Nat) (a : List UInt8), a.length ≤ n → (Lib.split a [c]).length ≤ a.length + 1 := by
    intro n
    induction n with
    | zero =>
      intro a ha
      have : a = [] := List.length_eq_zero_iff.1 (by omega)
      subst this
      rw [sp_none [] c (fun x hx => by cases hx)]; simp
    | succ n ih =>
      intro a ha
      rcases cut_or a c with h1 | ⟨u, v, h1, rfl⟩
      · rw [sp_none a c h1]; simp
      · rw [sp_app u v c h1]
        have h2 := ih v (by simp at ha; omega)
        simp; omega
  exact key a.length a (Nat.le_refl _)
theorem progParse_ev (s : List UInt8) (hs : s.length ≤ 5000) : Evt (fun k => addr_Parse.f k (tx s)) (parL s) := by
  have e1 : ((⟨#[47]⟩ : ByteArray)).data.toList = [47] := rfl
  have e2 : (tx s).data.toList = s := by simp [tx]
  have F : ∀ x, Evt (fun k => addr_Parse.j0 k x true) ((0, 0, 4) : Int × Int × Int) := fun x => by
    refine Evt.step ?_
    simp only [addr_Parse.j0]
    exact Evt.ite_pos trivial (Evt.pure _)
  have hlt := indexByte_lt s 47
  unfold addr_Parse.f
  by_cases h4 : 0 ≤ Lib.indexByte s 47
  · have hc : strings_Cut.f (tx s) (⟨#[47]⟩ : ByteArray) = some (tx (s.take (Lib.indexByte s 47).toNat), tx (s.drop ((Lib.indexByte s 47).toNat + 1)), true) := by
      unfold strings_Cut.f
      rw [e1, e2]
      simp only
      rw [if_pos (by rw [tx_size]; omega), if_pos h4]; rfl
    have hpr : prs s = match Lib.split (s.take (Lib.indexByte s 47).toNat) [46] with
      | [p0, p1, p2, p3] => if isN p0 = true ∧ isN p1 = true ∧ isN p2 = true ∧ isN p3 = true ∧ isN (s.drop ((Lib.indexByte s 47).toNat + 1)) = true then some (vaN p0, vaN p1, vaN p2, vaN p3, vaN (s.drop ((Lib.indexByte s 47).toNat + 1))) else none
      | _ => none := by unfold prs; exact if_pos h4
    have hal : (s.take (Lib.indexByte s 47).toNat).length ≤ s.length := by rw [List.length_take]; omega
    have hbl : (s.drop ((Lib.indexByte s 47).toNat + 1)).length ≤ s.length := by rw [List.length_drop]; omega
    generalize s.take (Lib.indexByte s 47).toNat = a at *
    generalize s.drop ((Lib.indexByte s 47).toNat + 1) = b at *
    have hsl := split_len a 46
    have hsm := split_mem a 46
    refine Evt.bindc hc (Evt.bindc (split_is a (by omega) 46) (Evt.ite_pos (by rw [List.length_map]; omega) (Evt.bindc rfl (Evt.ite_pos rfl ?_))))
    rw [show ((Lib.split a [46]).map tx ++ [tx b] : List ByteArray) = (Lib.split a [46] ++ [b]).map tx by simp]
    by_cases h5 : (Lib.split a [46]).length = 4
    · match hq : Lib.split a [46], h5 with
      | [p0, p1, p2, p3], _ =>
        rw [hq] at hpr hsm
        have l0 := hsm p0 (by simp)
        have l1 := hsm p1 (by simp)
        have l2 := hsm p2 (by simp)
        have l3 := hsm p3 (by simp)
        have hlen : ([p0, p1, p2, p3, b] : List (List UInt8)).length = 5 := rfl
        have hmem : ∀ p, p ∈ ([p0, p1, p2, p3, b] : List (List UInt8)) → p.length ≤ 100000 := by
          intro p hp
          simp only [List.mem_cons, List.mem_nil_iff, or_false] at hp
          rcases hp with rfl | rfl | rfl | rfl | rfl <;> omega
        refine Evt.step ?_
        simp only [addr_Parse.j0]
        refine Evt.ite_neg (by simp) ?_
        show Evt (fun k => addr_Parse.l0 k false (([p0, p1, p2, p3, b] : List (List UInt8)).map tx) 5 ((0 : Nat) : Int) 0 0) (parL s)
        replace hpr : prs s = if isN p0 = true ∧ isN p1 = true ∧ isN p2 = true ∧ isN p3 = true ∧ isN b = true then some (vaN p0, vaN p1, vaN p2, vaN p3, vaN b) else none := hpr
        have no : ¬ (isN p0 = true ∧ isN p1 = true ∧ isN p2 = true ∧ isN p3 = true ∧ isN b = true) → parL s = (0, 0, 4) := fun h => by unfold parL; rw [hpr, if_neg h]
        have v0 := vaN_rng p0
        have v1 := vaN_rng p1
        have v2 := vaN_rng p2
        have v3 := vaN_rng p3
        have v4 := vaN_rng b
        refine parStep _ hlen hmem 0 (by omega) p0 rfl _ _ _ _ (fun h => no (by rw [h]; simp)) fun g0 => ?_
        refine parStep _ hlen hmem 1 (by omega) p1 rfl _ _ _ _ (fun h => no (by rw [h]; simp)) fun g1 => ?_
        refine parStep _ hlen hmem 2 (by omega) p2 rfl _ _ _ _ (fun h => no (by rw [h]; simp)) fun g2 => ?_
        refine parStep _ hlen hmem 3 (by omega) p3 rfl _ _ _ _ (fun h => no (by rw [h]; simp)) fun g3 => ?_
        refine parLast _ hlen hmem b rfl _ _ _ _ (fun h => no (by rw [h]; simp)) fun g4 => ?_
        have hP2 : parL s = fin5 (vaN p0, vaN p1, vaN p2, vaN p3, vaN b) := by unfold parL; rw [hpr, if_pos ⟨g0, g1, g2, g3, g4⟩]
        have hbig : (((((false || decide (vaN p0 > 255)) || decide (vaN p1 > 255)) || decide (vaN p2 > 255)) || decide (vaN p3 > 255)) || decide (vaN b > 32)) = big (vaN p0, vaN p1, vaN p2, vaN p3, vaN b) := by
          unfold big; simp only [Bool.false_or]
        rw [hbig]
        refine parEnd _ _ _ _ _ (fun h => by rw [hP2]; unfold fin5; rw [if_pos h]) fun h => ?_
        have hle : vaN p0 ≤ 255 ∧ vaN p1 ≤ 255 ∧ vaN p2 ≤ 255 ∧ vaN p3 ≤ 255 ∧ vaN b ≤ 32 := by unfold big at h; simp at h; omega
        have n0 : nx 0 (vaN p0) = vaN p0 := by rw [nx_is _ _ (by omega) (by omega) (by omega) (by omega)]; omega
        have n1 : nx (vaN p0) (vaN p1) = vaN p0 * 256 + vaN p1 := nx_is _ _ (by omega) (by omega) (by omega) (by omega)
        have n2 : nx (vaN p0 * 256 + vaN p1) (vaN p2) = (vaN p0 * 256 + vaN p1) * 256 + vaN p2 := nx_is _ _ (by omega) (by omega) (by omega) (by omega)
        have n3 : nx ((vaN p0 * 256 + vaN p1) * 256 + vaN p2) (vaN p3) = ((vaN p0 * 256 + vaN p1) * 256 + vaN p2) * 256 + vaN p3 := nx_is _ _ (by omega) (by omega) (by omega) (by omega)
        have hadr : ((vaN p0 * 256 + vaN p1) * 256 + vaN p2) * 256 + vaN p3 = adr (vaN p0) (vaN p1) (vaN p2) (vaN p3) := by unfold adr; omega
        rw [n0, n1, n2, n3, hadr]
        refine ⟨by unfold isA adr; omega, ?_⟩
        rw [hP2]
        unfold fin5
        rw [if_neg (by rw [h]; simp)]
    · have hP : parL s = (0, 0, 4) := by
        unfold parL
        have : prs s = none := by
          rw [hpr]
          split
          · rename_i p0 p1 p2 p3 hq; rw [hq] at h5; exact absurd rfl h5
          · rfl
        rw [this]
      rw [hP]
      have : ((((Lib.split a [46] ++ [b]).map tx).length : Int) != 5) = true := by
        rw [List.length_map, List.length_append]
        simp only [List.length_cons, List.length_nil]
        rw [bne, beq_eq_false_iff_ne.2 (by omega)]; rfl
      rw [this]
      exact F _
  · have hc : strings_Cut.f (tx s) (⟨#[47]⟩ : ByteArray) = some (tx s, tx [], false) := by
      unfold strings_Cut.f
      rw [e1, e2]
      simp only
      rw [if_pos (by rw [tx_size]; omega), if_neg h4]; rfl
    have hP : parL s = (0, 0, 4) := by
      unfold parL prs
      rw [if_neg h4]
    have hsl := split_len s 46
    rw [hP]
    exact Evt.bindc hc (Evt.bindc (split_is s (by omega) 46) (Evt.ite_pos (by rw [List.length_map]; omega) (Evt.bindc rfl (Evt.ite_neg (by simp) (F _)))))
/-- the four bytes of an address -/
def by0 (a : Int) : Int := a / 16777216
def by1 (a : Int) : Int := a / 65536 % 256
def by2 (a : Int) : Int := a / 256 % 256
def by3 (a : Int) : Int := a % 256
theorem by_rng (a : Int) (h : isA a) : (0 ≤ by0 a ∧ by0 a ≤ 255) ∧ (0 ≤ by1 a ∧ by1 a ≤ 255) ∧ (0 ≤ by2 a ∧ by2 a ≤ 255) ∧ (0 ≤ by3 a ∧ by3 a ≤ 255) := by
  obtain ⟨h0, h1⟩ := h
  unfold by0 by1 by2 by3; omega
theorem and_255 (x : Int) (h0 : 0 ≤ x) (h1 : x < 4294967296) : Go.bits .and .u32 x 255 = x % 256 := by
  obtain ⟨n, rfl⟩ := Int.eq_ofNat_of_zero_le h0
  show IntKind.u32.wrap ((BitVec.ofInt 32 (n : Int) &&& BitVec.ofInt 32 255).toNat : Int) = _
  have e2 : BitVec.ofInt 32 255 = BitVec.ofNat 32 (2 ^ 8 - 1) := by decide
  rw [e2, IntKind.wrap_u32, ofN, BitVec.toNat_and, BitVec.toNat_ofNat, BitVec.toNat_ofNat]
  have hx : n % 2 ^ 32 = n := Nat.mod_eq_of_lt (by omega)
  have hq : (2 ^ 8 - 1) % 2 ^ 32 = 2 ^ 8 - 1 := by decide
  rw [hx, hq, Nat.and_two_pow_sub_one_eq_mod]
  omega
theorem aDig_is (n : Int) (h0 : 0 ≤ n) (h1 : n ≤ 4294967295) : addr_digits.f n = some (tx (dig n.toNat)) := by
  unfold addr_digits.f
  rw [if_pos ⟨h0, h1⟩]; rfl
/-- a prefix's text -/
def txP (a b : Int) : List UInt8 := if mayB a b = true then tx5 (by0 a).toNat (by1 a).toNat (by2 a).toNat (by3 a).toNat b.toNat else []
theorem dig_small_len (n : Nat) (h : n ≤ 255) : (dig n).length ≤ 3 := by
  have : ∀ n : Fin 256, (dig n.val).length ≤ 3 := by
    intro n
    by_cases h1 : n.val < 10
    · rw [dig_small _ h1]; simp
    · rw [dig_big _ h1]
      by_cases h2 : n.val / 10 < 10
      · rw [dig_small _ h2]; simp
      · rw [dig_big _ h2, dig_small _ (by omega)]; simp
  exact this ⟨n, by omega⟩
theorem join_four (d0 d1 d2 d3 : List UInt8) : Lib.join [d0, d1, d2, d3] [46] = d0 ++ 46 :: (d1 ++ 46 :: (d2 ++ 46 :: d3)) := by simp [Lib.join]
theorem progText_ev (a b : Int) (ha : isA a) : Evt (fun k => addr_Text.f k a b) (tx (txP a b)) := by
  unfold addr_Text.f txP
  refine Evt.bindc (may_is a b ha) ?_
  by_cases hm : mayB a b = true
  · obtain ⟨b0, b1, _⟩ := (mayB_iff a b).1 hm
    rw [if_pos hm]
    refine Evt.ite_pos hm ?_
    obtain ⟨r0, r1, r2, r3⟩ := by_rng a ha
    have hp := ha.1
    have hq := ha.2
    have s0 : addr_digits.f (Go.bits .and .u32 (shr .u32 a (wrap64 (24 - wrap64 (8 * 0)))) 255) = some (tx (dig (by0 a).toNat)) := by
      rw [wrap64_in (8 * 0) (by omega) (by omega), wrap64_in (24 - 8 * 0) (by omega) (by omega)]
      have : shr .u32 a (24 - 8 * 0) = a / 16777216 := rfl
      rw [this, and_255 _ (by omega) (by omega), show a / 16777216 % 256 = by0 a by unfold by0; omega]
      exact aDig_is _ (by omega) (by omega)
    have s1 : addr_digits.f (Go.bits .and .u32 (shr .u32 a (wrap64 (24 - wrap64 (8 * 1)))) 255) = some (tx (dig (by1 a).toNat)) := by
      rw [wrap64_in (8 * 1) (by omega) (by omega), wrap64_in (24 - 8 * 1) (by omega) (by omega)]
      have : shr .u32 a (24 - 8 * 1) = a / 65536 := rfl
      rw [this, and_255 _ (by omega) (by omega)]
      exact aDig_is (by1 a) (by omega) (by omega)
    have s2 : addr_digits.f (Go.bits .and .u32 (shr .u32 a (wrap64 (24 - wrap64 (8 * 2)))) 255) = some (tx (dig (by2 a).toNat)) := by
      rw [wrap64_in (8 * 2) (by omega) (by omega), wrap64_in (24 - 8 * 2) (by omega) (by omega)]
      have : shr .u32 a (24 - 8 * 2) = a / 256 := rfl
      rw [this, and_255 _ (by omega) (by omega)]
      exact aDig_is (by2 a) (by omega) (by omega)
    have s3 : addr_digits.f (Go.bits .and .u32 (shr .u32 a (wrap64 (24 - wrap64 (8 * 3)))) 255) = some (tx (dig (by3 a).toNat)) := by
      rw [wrap64_in (8 * 3) (by omega) (by omega), wrap64_in (24 - 8 * 3) (by omega) (by omega)]
      have : shr .u32 a (24 - 8 * 3) = a / 1 := rfl
      rw [this, Int.ediv_one, and_255 _ (by omega) (by omega)]
      exact aDig_is (by3 a) (by omega) (by omega)
    have l0 := dig_small_len (by0 a).toNat (by omega)
    have l1 := dig_small_len (by1 a).toNat (by omega)
    have l2 := dig_small_len (by2 a).toNat (by omega)
    have l3 := dig_small_len (by3 a).toNat (by omega)
    have l4 := dig_small_len b.toNat (by omega)
    have h4 : addr_digits.f (b % 4294967296) = some (tx (dig b.toNat)) := by
      rw [Int.emod_eq_of_lt (by omega) (by omega)]; exact aDig_is b (by omega) (by omega)
    unfold tx5
    generalize dig (by0 a).toNat = d0 at *
    generalize dig (by1 a).toNat = d1 at *
    generalize dig (by2 a).toNat = d2 at *
    generalize dig (by3 a).toNat = d3 at *
    generalize dig b.toNat = d4 at *
    refine Evt.step ?_
    simp only [addr_Text.l0]
    refine Evt.ite_pos (by omega) (Evt.ite_pos (by unfold wrap64; omega) (Evt.bindc s0 (Evt.ite_pos (by simp) ?_)))
    rw [show wrap64 (0 + 1) = 1 from by unfold wrap64; omega]
    refine Evt.step ?_
    simp only [addr_Text.l0]
    refine Evt.ite_pos (by omega) (Evt.ite_pos (by unfold wrap64; omega) (Evt.bindc s1 (Evt.ite_pos (by simp) ?_)))
    rw [show wrap64 (1 + 1) = 2 from by unfold wrap64; omega]
    refine Evt.step ?_
    simp only [addr_Text.l0]
    refine Evt.ite_pos (by omega) (Evt.ite_pos (by unfold wrap64; omega) (Evt.bindc s2 (Evt.ite_pos (by simp) ?_)))
    rw [show wrap64 (2 + 1) = 3 from by unfold wrap64; omega]
    refine Evt.step ?_
    simp only [addr_Text.l0]
    refine Evt.ite_pos (by omega) (Evt.ite_pos (by unfold wrap64; omega) (Evt.bindc s3 (Evt.ite_pos (by simp) ?_)))
    rw [show wrap64 (3 + 1) = 4 from by unfold wrap64; omega]
    refine Evt.step ?_
    simp only [addr_Text.l0]
    refine Evt.ite_neg (by omega) ?_
    have hj : strings_Join.f ([] ++ [tx d0] ++ [tx d1] ++ [tx d2] ++ [tx d3]) (⟨#[46]⟩ : ByteArray) = some (tx (d0 ++ 46 :: (d1 ++ 46 :: (d2 ++ 46 :: d3)))) := by
      have e : (([] ++ [tx d0] ++ [tx d1] ++ [tx d2] ++ [tx d3] : List ByteArray).map (·.data.toList)) = [d0, d1, d2, d3] := by simp [tx]
      unfold strings_Join.f
      rw [e, show ((⟨#[46]⟩ : ByteArray)).data.toList = [46] from rfl, join_four, if_pos]
      · rfl
      · constructor
        · simp
        · simp; omega
    refine Evt.bindc hj (Evt.ite_pos (by rw [tx_size]; simp; omega) (Evt.bindc h4 ?_))
    rw [show (⟨#[47]⟩ : ByteArray) = tx [47] from rfl, tx_app, tx_app, tx_size, tx_size]
    refine Evt.ite_pos (by simp; omega) (Evt.of fun k => ?_)
    simp
  · rw [if_neg hm]
    exact Evt.ite_neg hm (Evt.pure _)
end Go.Proofs.YtckffheolnmcnaaDoor.P

end
section
set_option linter.unusedVariables false
set_option linter.unusedSimpArgs false
namespace Go.Proofs.YtckffheolnmcnaaDoor.P
open Go.RowKit Go.Proofs.YtckffheolnmcnaaDoorW.PrintWords Go.Proofs.YtckffheolnmcnaaDoorW.PrintLast Go.Proofs.YtckffheolnmcnaaDoorW.PrintMore

theorem btA {s : List UInt8} {i : Nat} {c : UInt8} (h : s[i]? = some c) : bt (tx s) (i : Int) = (c.toNat : Int) := by
  unfold bt
  have hi := (List.getElem?_eq_some_iff.1 h).1
  have h2 : (i : Int).toNat < (tx s).size := by rw [Int.toNat_natCast, tx_size]; exact hi
  rw [dif_pos h2]
  have : ((tx s)[(i : Int).toNat]'h2) = c := by
    have e := (List.getElem?_eq_some_iff.1 h).2
    show ((tx s).data[(i : Int).toNat]'_) = c
    simp [tx, e]
  rw [this]
/-- the digits that stand at a place -/
def tw (s : List UInt8) (a : Nat) : List UInt8 := (s.drop a).takeWhile isDg
theorem tw_end (s : List UInt8) (a : Nat) (h : s.length ≤ a) : tw s a = [] := by
  unfold tw; rw [List.drop_eq_nil_of_le h]; rfl
theorem tw_dig (s : List UInt8) (a : Nat) (c : UInt8) (h : s[a]? = some c) (hc : isDg c = true) : tw s a = c :: tw s (a + 1) := by
  obtain ⟨hh, e⟩ := List.getElem?_eq_some_iff.1 h
  unfold tw
  rw [List.drop_eq_getElem_cons hh, e, List.takeWhile_cons, if_pos hc]
theorem tw_off (s : List UInt8) (a : Nat) (c : UInt8) (h : s[a]? = some c) (hc : isDg c = false) : tw s a = [] := by
  obtain ⟨hh, e⟩ := List.getElem?_eq_some_iff.1 h
  unfold tw
  rw [List.drop_eq_getElem_cons hh, e, List.takeWhile_cons, if_neg (by rw [hc]; simp)]
theorem tw_len (s : List UInt8) (a : Nat) (h : a ≤ s.length) : a + (tw s a).length ≤ s.length := by
  have : (tw s a).length ≤ (s.drop a).length := by unfold tw; exact (List.takeWhile_sublist _).length_le
  rw [List.length_drop] at this
  omega
theorem tw_all (s : List UInt8) (a : Nat) : (tw s a).all isDg = true := by
  unfold tw
  exact List.all_takeWhile
theorem tw_self (p : UInt8 → Bool) (l : List UInt8) (h : ∀ x, x ∈ l → p x = true) : l.takeWhile p = l := by
  induction l with
  | nil => rfl
  | cons a l ih => rw [List.takeWhile_cons, if_pos (h a (by simp)), ih (fun x hx => h x (by simp [hx]))]
theorem tw_rest (s : List UInt8) (a : Nat) : (s.drop a).dropWhile isDg = s.drop (a + (tw s a).length) := by
  have h := List.takeWhile_append_dropWhile (p := isDg) (l := s.drop a)
  have h2 : ((s.drop a).takeWhile isDg ++ (s.drop a).dropWhile isDg).drop (tw s a).length = (s.drop a).dropWhile isDg := by
    show (tw s a ++ _).drop (tw s a).length = _
    exact List.drop_left
  rw [h, List.drop_drop] at h2
  exact h2.symm
theorem refDigLoop_ev (s : List UInt8) (at_ : Nat) (hs : s.length ≤ 5000) : ∀ (d kk : Nat) (n : Int), s.length - (at_ + kk) = d → at_ + kk ≤ s.length → 0 ≤ n → n ≤ 1000 →
    Evt (fun k => whirligigref01_digits.l0 k (tx s) (at_ : Int) (kk : Int) n) (if 1 < kk + (tw s (at_ + kk)).length ∧ s[at_]? = some 48 then (0, 0) else (((kk + (tw s (at_ + kk)).length : Nat) : Int), numF 1000 n (tw s (at_ + kk)))) := by
  have J : ∀ (kk : Nat) (n : Int), at_ + kk ≤ s.length → Evt (fun k => whirligigref01_digits.j1 k (tx s) (at_ : Int) (kk : Int) n false) (if 1 < kk ∧ s[at_]? = some 48 then (0, 0) else ((kk : Int), n)) := by
    intro kk n h1
    refine Evt.step ?_
    simp only [whirligigref01_digits.j1]
    refine Evt.ite_neg (by simp) ?_
    by_cases h : 1 < kk
    · obtain ⟨c, hc⟩ : ∃ c, s[at_]? = some c := ⟨_, List.getElem?_eq_getElem (h := by omega)⟩
      refine Evt.ite_pos (by omega) (Evt.ite_pos (by omega) (Evt.ite_pos (by rw [tx_size]; omega) ?_))
      rw [btA hc, hc]
      by_cases h48 : c = 48
      · subst h48
        refine Evt.ite_pos rfl ?_
        rw [if_pos ⟨h, rfl⟩]; exact Evt.pure _
      · refine Evt.ite_neg (fun e => h48 (UInt8.toNat_inj.1 (by show c.toNat = 48; omega))) ?_
        rw [if_neg (fun e => h48 (by simpa using e.2))]; exact Evt.pure _
    · refine Evt.ite_neg (by omega) ?_
      rw [if_neg (fun e => h e.1)]; exact Evt.pure _
  intro d
  induction d with
  | zero =>
    intro kk n hd hk h0 h1
    have hJ := J kk n hk
    rw [tw_end s (at_ + kk) (by omega)]
    refine Evt.step ?_
    simp only [whirligigref01_digits.l0]
    rw [wrap64_in _ (by omega) (by omega)]
    refine Evt.ite_neg (by rw [tx_size]; omega) ?_
    exact hJ
  | succ d ih =>
    intro kk n hd hk h0 h1
    obtain ⟨c, hc⟩ : ∃ c, s[at_ + kk]? = some c := ⟨_, List.getElem?_eq_getElem (h := by omega)⟩
    have hcr := c.toNat_lt
    have hb := btA hc
    rw [show ((at_ + kk : Nat) : Int) = (at_ : Int) + (kk : Int) by omega] at hb
    refine Evt.step ?_
    simp only [whirligigref01_digits.l0]
    rw [wrap64_in ((at_ : Int) + (kk : Int)) (by omega) (by omega), hb]
    refine Evt.ite_pos (by rw [tx_size]; omega) (Evt.ite_pos (by omega) ?_)
    by_cases hdg : isDg c = true
    · have hdd := hdg
      unfold isDg at hdd
      simp at hdd
      rw [tw_dig s (at_ + kk) c hc hdg]
      have hi := ih (kk + 1) (min (10 * n + ((c.toNat : Int) - 48)) 1000) (by omega) (by omega) (by omega) (by omega)
      rw [show at_ + (kk + 1) = at_ + kk + 1 by omega] at hi
      refine Evt.ite_pos (by omega) ?_
      rw [decide_eq_true (by omega : (c.toNat : Int) ≤ 57)]
      refine Evt.step ?_
      simp only [whirligigref01_digits.j1]
      rw [wrap64_in ((at_ : Int) + (kk : Int)) (by omega) (by omega), hb, wrap64_in (10 * n) (by omega) (by omega), wrap64_in (c.toNat : Int) (by omega) (by omega), wrap64_in (10 * n + (c.toNat : Int)) (by omega) (by omega), wrap64_in (10 * n + (c.toNat : Int) - 48) (by omega) (by omega), wrap64_in ((kk : Int) + 1) (by omega) (by omega)]
      refine Evt.ite_pos (by first | rfl | trivial) (Evt.ite_pos (by omega) (Evt.ite_pos (by rw [tx_size]; omega) ?_))
      rw [List.length_cons, show kk + ((tw s (at_ + kk + 1)).length + 1) = kk + 1 + (tw s (at_ + kk + 1)).length by omega]
      show Evt _ (if 1 < kk + 1 + (tw s (at_ + kk + 1)).length ∧ s[at_]? = some 48 then (0, 0) else (((kk + 1 + (tw s (at_ + kk + 1)).length : Nat) : Int), numF 1000 (min (10 * n + ((c.toNat : Int) - 48)) 1000) (tw s (at_ + kk + 1))))
      by_cases hm : 10 * n + (c.toNat : Int) - 48 > 1000
      · refine Evt.ite_pos hm ?_
        rw [show min (10 * n + ((c.toNat : Int) - 48)) 1000 = 1000 by omega] at hi ⊢
        exact hi
      · refine Evt.ite_neg hm ?_
        rw [show min (10 * n + ((c.toNat : Int) - 48)) 1000 = 10 * n + (c.toNat : Int) - 48 by omega] at hi ⊢
        exact hi
    · have hdf : isDg c = false := Bool.eq_false_iff.mpr hdg
      have hJ := J kk n hk
      rw [tw_off s (at_ + kk) c hc hdf]
      have hne : ¬ ((48 : Int) ≤ c.toNat ∧ (c.toNat : Int) ≤ 57) := by
        intro e
        unfold isDg at hdg
        simp at hdg
        omega
      by_cases h48 : (c.toNat : Int) ≥ 48
      · refine Evt.ite_pos h48 ?_
        rw [decide_eq_false (by omega : ¬ (c.toNat : Int) ≤ 57)]
        exact hJ
      · exact Evt.ite_neg h48 hJ
theorem refDig5_ev (s : List UInt8) (at_ : Nat) (hs : s.length ≤ 5000) (ha : at_ ≤ s.length) :
    Evt (fun k => whirligigref01_digits.f k (tx s) (at_ : Int)) (if isN (tw s at_) = true then (((tw s at_).length : Int), vaN (tw s at_)) else (0, 0)) := by
  have h := refDigLoop_ev s at_ hs (s.length - (at_ + 0)) 0 0 rfl (by omega) (by omega) (by omega)
  rw [Nat.zero_add, Nat.add_zero] at h
  unfold whirligigref01_digits.f
  have hhead : s[at_]? = some 48 → (tw s at_).head? = some 48 := by
    intro e; rw [tw_dig s at_ 48 e (by decide)]; rfl
  have hhead2 : (tw s at_).head? = some 48 → s[at_]? = some 48 := by
    intro e
    cases hc : s[at_]? with
    | none => rw [tw_end s at_ (List.getElem?_eq_none_iff.1 hc)] at e; cases e
    | some c =>
      by_cases hd : isDg c = true
      · rw [tw_dig s at_ c hc hd] at e; rw [← e]; rfl
      · rw [tw_off s at_ c hc (Bool.eq_false_iff.mpr hd)] at e; cases e
  have hall := tw_all s at_
  by_cases hn : isN (tw s at_) = true
  · rw [if_pos hn]
    obtain ⟨n0, n1, n2⟩ := (isN_iff _).1 hn
    rw [if_neg (fun e => n1 ⟨e.1, hhead e.2⟩)] at h
    have hv : numF 1000 0 (tw s at_) = vaN (tw s at_) := by
      unfold vaN numL
      rw [if_neg (fun e => e.elim n0 n1), if_pos n2]
    rw [hv] at h
    exact h
  · rw [if_neg hn]
    by_cases he : tw s at_ = []
    · rw [he] at h
      rw [if_neg (by rintro ⟨e, _⟩; simp at e)] at h
      exact h
    · have hx : 1 < (tw s at_).length ∧ (tw s at_).head? = some 48 := by
        apply Classical.byContradiction
        intro e
        exact hn ((isN_iff _).2 ⟨he, e, hall⟩)
      rw [if_pos ⟨hx.1, hhead2 hx.2⟩] at h
      exact h
/-- the bytes between the numbers, from the last r + 1 numbers on -/
def sps (r : Nat) : List UInt8 := [46, 46, 46, 47].drop (4 - r)
theorem sps_succ (r : Nat) (h : r < 4) : sps (r + 1) = (if r = 0 then 47 else 46) :: sps r := by
  match r, h with
  | 0, _ => rfl
  | 1, _ => rfl
  | 2, _ => rfl
  | 3, _ => rfl
theorem isN_whole (s : List UInt8) (a : Nat) (ha : a ≤ s.length) : isN (s.drop a) = (isN (tw s a) && decide (a + (tw s a).length = s.length)) := by
  have hr := tw_rest s a
  have happ := List.takeWhile_append_dropWhile (p := isDg) (l := s.drop a)
  rw [hr] at happ
  by_cases he : a + (tw s a).length = s.length
  · rw [decide_eq_true he, Bool.and_true]
    rw [he, List.drop_eq_nil_of_le (Nat.le_refl _), List.append_nil] at happ
    show isN (s.drop a) = isN ((s.drop a).takeWhile isDg)
    rw [happ]
  · rw [decide_eq_false he, Bool.and_false]
    apply Bool.eq_false_iff.mpr
    intro hn
    have h2 := ((isN_iff _).1 hn).2.2
    have hl := tw_len s a ha
    have h3 : (s.drop a).takeWhile isDg = s.drop a := tw_self _ _ (List.all_eq_true.1 h2)
    have h4 : (tw s a).length = s.length - a := by show ((s.drop a).takeWhile isDg).length = _; rw [h3, List.length_drop]
    omega
theorem vaN_whole (s : List UInt8) (a : Nat) (h : a + (tw s a).length = s.length) : vaN (s.drop a) = vaN (tw s a) := by
  have hr := tw_rest s a
  have happ := List.takeWhile_append_dropWhile (p := isDg) (l := s.drop a)
  rw [hr, h, List.drop_eq_nil_of_le (Nat.le_refl _), List.append_nil] at happ
  show _ = vaN ((s.drop a).takeWhile isDg)
  rw [happ]
theorem refParL_ev (s : List UInt8) (hs : s.length ≤ 5000) : ∀ (r a : Nat) (n : List Int), r ≤ 4 → a ≤ s.length → n.length = 5 →
    ∃ o, Evt (fun k => whirligigref01_Parse.l0 k (tx s) r (a : Int) n) o ∧ (match o with
      | none => sq (sps r) (s.drop a) = none
      | some (a', n') => n'.length = 5 ∧ n'.take (4 - r) = n.take (4 - r) ∧ sq (sps r) (s.drop a) = if a' = (s.length : Int) then some (n'.drop (4 - r)) else none) := by
  intro r
  induction r with
  | zero =>
    intro a n hr ha hn
    have hd := refDig5_ev s a hs ha
    have hq : sq (sps 0) (s.drop a) = if isN (s.drop a) = true then some [vaN (s.drop a)] else none := rfl
    have hrng := vaN_rng (tw s a)
    have hl := tw_len s a ha
    by_cases h : isN (tw s a) = true
    · rw [if_pos h] at hd
      have hne : (tw s a).length ≠ 0 := fun e => ((isN_iff _).1 h).1 (List.length_eq_zero_iff.1 e)
      refine ⟨some (((a + (tw s a).length : Nat) : Int), n.set 4 (vaN (tw s a))), ?_, ?_⟩
      · unfold whirligigref01_Parse.l0
        refine Evt.bind hd (Evt.ite_neg (by show ¬ ((tw s a).length : Int) = 0; omega) (Evt.ite_pos (by show 0 ≤ vaN (tw s a) ∧ vaN (tw s a) ≤ 1000 ∧ 0 ≤ (a : Int) + ((tw s a).length : Int) ∧ (a : Int) + ((tw s a).length : Int) ≤ 1000000; omega) (Evt.of fun k => ?_)))
        show some (some ((a : Int) + ((tw s a).length : Int), n.set 4 (vaN (tw s a)))) = _
        rw [show (a : Int) + ((tw s a).length : Int) = ((a + (tw s a).length : Nat) : Int) by omega]
      · refine ⟨by simp [hn], by rw [List.take_set_of_le (Nat.le_refl _)], ?_⟩
        rw [hq, isN_whole s a ha, h, Bool.true_and]
        by_cases he : a + (tw s a).length = s.length
        · rw [decide_eq_true he, if_pos rfl, if_pos (by omega), vaN_whole s a he]
          match n, hn with
          | [a0, a1, a2, a3, a4], _ => rfl
        · rw [decide_eq_false he, if_neg (by simp), if_neg (by omega)]
    · rw [if_neg h] at hd
      refine ⟨none, ?_, ?_⟩
      · unfold whirligigref01_Parse.l0
        exact Evt.bind hd (Evt.ite_pos rfl (Evt.pure _))
      · show sq (sps 0) (s.drop a) = none
        rw [hq, isN_whole s a ha, Bool.eq_false_iff.mpr h]; rfl
  | succ r ih =>
    intro a n hr ha hn
    have hd := refDig5_ev s a hs ha
    have hrng := vaN_rng (tw s a)
    have hl := tw_len s a ha
    have hq : sq (sps (r + 1)) (s.drop a) = if isN (tw s a) = true then (match s.drop (a + (tw s a).length) with
      | b :: t => if b = (if r = 0 then 47 else 46) then (sq (sps r) t).map fun l => vaN (tw s a) :: l else none
      | [] => none) else none := by
      rw [sps_succ r (by omega), sq, tw_rest s a]; rfl
    by_cases h : isN (tw s a) = true
    · rw [if_pos h] at hd hq
      have hne : (tw s a).length ≠ 0 := fun e => ((isN_iff _).1 h).1 (List.length_eq_zero_iff.1 e)
      have go : ∀ o, Evt (fun k => if (a : Int) + ((tw s a).length : Int) < ((tx s).size : Int) then (if bt (tx s) ((a : Int) + ((tw s a).length : Int)) = (if r = 0 then 47 else 46) then whirligigref01_Parse.l0 k (tx s) r ((a : Int) + ((tw s a).length : Int) + 1) (n.set (3 - r) (vaN (tw s a))) else some none) else some none) o → Evt (fun k => whirligigref01_Parse.l0 k (tx s) (r + 1) (a : Int) n) o := by
        intro o ho
        unfold whirligigref01_Parse.l0
        exact Evt.bind hd (Evt.ite_neg (by show ¬ ((tw s a).length : Int) = 0; omega) (Evt.ite_pos (by show 0 ≤ vaN (tw s a) ∧ vaN (tw s a) ≤ 1000 ∧ 0 ≤ (a : Int) + ((tw s a).length : Int) ∧ (a : Int) + ((tw s a).length : Int) ≤ 1000000; omega) ho))
      by_cases hlt : a + (tw s a).length < s.length
      · obtain ⟨c, hc⟩ : ∃ c, s[a + (tw s a).length]? = some c := ⟨_, List.getElem?_eq_getElem (h := hlt)⟩
        have hdr : s.drop (a + (tw s a).length) = c :: s.drop (a + (tw s a).length + 1) := by
          obtain ⟨hh, e⟩ := List.getElem?_eq_some_iff.1 hc
          rw [List.drop_eq_getElem_cons hh, e]
        replace hq : sq (sps (r + 1)) (s.drop a) = if c = (if r = 0 then 47 else 46) then (sq (sps r) (s.drop (a + (tw s a).length + 1))).map fun l => vaN (tw s a) :: l else none := by rw [hq, hdr]
        have hb := btA hc
        rw [show ((a + (tw s a).length : Nat) : Int) = (a : Int) + ((tw s a).length : Int) by omega] at hb
        by_cases hsep : c = (if r = 0 then 47 else 46)
        · rw [if_pos hsep] at hq
          obtain ⟨o, ho, hm⟩ := ih (a + (tw s a).length + 1) (n.set (3 - r) (vaN (tw s a))) (by omega) (by omega) (by simp [hn])
          refine ⟨o, go o ?_, ?_⟩
          · refine Evt.ite_pos (by rw [tx_size]; omega) (Evt.ite_pos ?_ ?_)
            · rw [hb, hsep]; split <;> rfl
            · rw [show (a : Int) + ((tw s a).length : Int) + 1 = ((a + (tw s a).length + 1 : Nat) : Int) by omega]; exact ho
          · cases o with
            | none =>
              show sq (sps (r + 1)) (s.drop a) = none
              rw [hq, show sq (sps r) (s.drop (a + (tw s a).length + 1)) = none from hm]; rfl
            | some p =>
              obtain ⟨a', n'⟩ := p
              obtain ⟨m1, m2, m3⟩ : n'.length = 5 ∧ n'.take (4 - r) = (n.set (3 - r) (vaN (tw s a))).take (4 - r) ∧ sq (sps r) (s.drop (a + (tw s a).length + 1)) = if a' = (s.length : Int) then some (n'.drop (4 - r)) else none := hm
              show n'.length = 5 ∧ n'.take (4 - (r + 1)) = n.take (4 - (r + 1)) ∧ sq (sps (r + 1)) (s.drop a) = if a' = (s.length : Int) then some (n'.drop (4 - (r + 1))) else none
              have h43 : 4 - r = 3 - r + 1 := by omega
              have h44 : 4 - (r + 1) = 3 - r := by omega
              have ht : n'.take (3 - r) = n.take (3 - r) := by
                have := congrArg (List.take (3 - r)) m2
                rw [List.take_take, List.take_take, Nat.min_eq_left (by omega), List.take_set_of_le (Nat.le_refl _)] at this
                exact this
              have hx : n'[3 - r]? = some (vaN (tw s a)) := by
                have : (n'.take (4 - r))[3 - r]? = ((n.set (3 - r) (vaN (tw s a))).take (4 - r))[3 - r]? := by rw [m2]
                rw [List.getElem?_take_of_lt (by omega), List.getElem?_take_of_lt (by omega), List.getElem?_set_self (by omega)] at this
                exact this
              have hdd : n'.drop (3 - r) = vaN (tw s a) :: n'.drop (4 - r) := by
                obtain ⟨hh, e⟩ := List.getElem?_eq_some_iff.1 hx
                rw [List.drop_eq_getElem_cons hh, e, h43]
              refine ⟨m1, by rw [h44]; exact ht, ?_⟩
              rw [hq, m3, h44, hdd]
              split <;> rfl
        · rw [if_neg hsep] at hq
          refine ⟨none, go none (Evt.ite_pos (by rw [tx_size]; omega) (Evt.ite_neg ?_ (Evt.pure _))), hq⟩
          rw [hb]
          intro e
          apply hsep
          apply UInt8.toNat_inj.1
          split at e <;> rename_i h0
          · rw [if_pos h0]; show c.toNat = 47; omega
          · rw [if_neg h0]; show c.toNat = 46; omega
      · have hnil : s.drop (a + (tw s a).length) = [] := List.drop_eq_nil_of_le (by omega)
        rw [hnil] at hq
        exact ⟨none, go none (Evt.ite_neg (by rw [tx_size]; omega) (Evt.pure _)), hq⟩
    · rw [if_neg h] at hd hq
      refine ⟨none, ?_, hq⟩
      unfold whirligigref01_Parse.l0
      exact Evt.bind hd (Evt.ite_pos rfl (Evt.pure _))
theorem refParse_ev (s : List UInt8) (hs : s.length ≤ 5000) : Evt (fun k => whirligigref01_Parse.f k (tx s)) (parL s) := by
  obtain ⟨o, ho, hm⟩ := refParL_ev s hs 4 0 [0, 0, 0, 0, 0] (by omega) (by omega) rfl
  have hf := fiv_prs s
  unfold whirligigref01_Parse.f
  refine Evt.bind ho ?_
  cases o with
  | none =>
    have hq : sq [46, 46, 46, 47] s = none := hm
    have hp : prs s = none := by rw [← hf]; unfold fiv; rw [hq]
    unfold parL
    rw [hp]; exact Evt.pure _
  | some p =>
    obtain ⟨a', n'⟩ := p
    obtain ⟨m1, _, m3⟩ : n'.length = 5 ∧ n'.take 0 = [] ∧ sq [46, 46, 46, 47] s = if a' = (s.length : Int) then some (n'.drop 0) else none := hm
    show Evt (fun k => if a' ≠ ((tx s).size : Int) then some (0, 0, 4) else if whirligigref01_Parse.over n' = true then some (0, 0, 7) else (whirligigref01_May.f k (whirligigref01_Parse.ad n') (n'.getD 4 0)).bind fun m => if m = true then some (whirligigref01_Parse.ad n', n'.getD 4 0, 0) else some (0, 0, 1)) (parL s)
    by_cases he : a' = (s.length : Int)
    · rw [if_pos he] at m3
      match n', m1 with
      | [n0, n1, n2, n3, n4], _ =>
        have hp : prs s = some (n0, n1, n2, n3, n4) := by rw [← hf]; unfold fiv; rw [m3]; rfl
        obtain ⟨b0, b1, b2, b3, b4⟩ := prs_rng s _ hp
        simp only at b0 b1 b2 b3 b4
        refine Evt.ite_neg (by rw [tx_size]; exact fun h => h he) ?_
        unfold parL
        rw [hp]
        show Evt _ (fin5 (n0, n1, n2, n3, n4))
        unfold fin5 big
        by_cases ho2 : whirligigref01_Parse.over [n0, n1, n2, n3, n4] = true
        · refine Evt.ite_pos ho2 ?_
          rw [if_pos]
          · exact Evt.pure _
          · unfold whirligigref01_Parse.over at ho2
            simp at ho2 ⊢
            omega
        · refine Evt.ite_neg ho2 ?_
          unfold whirligigref01_Parse.over at ho2
          simp at ho2
          rw [if_neg (by simp; omega)]
          have had : whirligigref01_Parse.ad [n0, n1, n2, n3, n4] = adr n0 n1 n2 n3 := by unfold whirligigref01_Parse.ad adr; simp; omega
          rw [had]
          have hA : isA (adr n0 n1 n2 n3) := by unfold isA adr; omega
          show Evt (fun k => (whirligigref01_May.f k (adr n0 n1 n2 n3) n4).bind fun m => if m = true then some (adr n0 n1 n2 n3, n4, 0) else some (0, 0, 1)) _
          refine Evt.bind (refMay_ev _ n4 hA) ?_
          by_cases hmm : mayB (adr n0 n1 n2 n3) n4 = true
          · refine Evt.ite_pos hmm ?_
            rw [if_pos hmm]; exact Evt.pure _
          · refine Evt.ite_neg hmm ?_
            rw [if_neg hmm]; exact Evt.pure _
    · rw [if_neg he] at m3
      have hp : prs s = none := by rw [← hf]; unfold fiv; rw [m3]
      refine Evt.ite_pos (by rw [tx_size]; exact he) ?_
      unfold parL
      rw [hp]; exact Evt.pure _
theorem refText_ev (a b : Int) (ha : isA a) : Evt (fun k => whirligigref01_Text.f k a b) (tx (txP a b)) := by
  unfold whirligigref01_Text.f txP
  refine Evt.bind (refMay_ev a b ha) ?_
  by_cases hm : mayB a b = true
  · obtain ⟨b0, b1, _⟩ := (mayB_iff a b).1 hm
    rw [if_pos hm]
    refine Evt.ite_pos hm ?_
    obtain ⟨r0, r1, r2, r3⟩ := by_rng a ha
    have hp := ha.1
    have hq := ha.2
    have e0 : wrap64 (Int.tdiv (wrap64 a) 16777216) = by0 a := by
      rw [wrap64_in a (by omega) (by omega), Int.tdiv_eq_ediv_of_nonneg hp]; exact wrap64_in _ (by omega) (by omega)
    have e1 : Int.tmod (wrap64 (Int.tdiv (wrap64 a) 65536)) 256 = by1 a := by
      rw [wrap64_in a (by omega) (by omega), Int.tdiv_eq_ediv_of_nonneg hp, wrap64_in _ (by omega) (by omega), Int.tmod_eq_emod_of_nonneg (by omega)]; rfl
    have e2 : Int.tmod (wrap64 (Int.tdiv (wrap64 a) 256)) 256 = by2 a := by
      rw [wrap64_in a (by omega) (by omega), Int.tdiv_eq_ediv_of_nonneg hp, wrap64_in _ (by omega) (by omega), Int.tmod_eq_emod_of_nonneg (by omega)]; rfl
    have e3 : Int.tmod (wrap64 a) 256 = by3 a := by
      rw [wrap64_in a (by omega) (by omega), Int.tmod_eq_emod_of_nonneg (by omega)]; rfl
    have l0 := dig_small_len (by0 a).toNat (by omega)
    have l1 := dig_small_len (by1 a).toNat (by omega)
    have l2 := dig_small_len (by2 a).toNat (by omega)
    have l3 := dig_small_len (by3 a).toNat (by omega)
    have l4 := dig_small_len b.toNat (by omega)
    have n0 := refNumber_ev (by0 a) (by omega) (by omega)
    have n1 := refNumber_ev (by1 a) (by omega) (by omega)
    have n2 := refNumber_ev (by2 a) (by omega) (by omega)
    have n3 := refNumber_ev (by3 a) (by omega) (by omega)
    have n4 := refNumber_ev b (by omega) (by omega)
    rw [e0, e1, e2, e3]
    unfold tx5
    generalize dig (by0 a).toNat = d0 at *
    generalize dig (by1 a).toNat = d1 at *
    generalize dig (by2 a).toNat = d2 at *
    generalize dig (by3 a).toNat = d3 at *
    generalize dig b.toNat = d4 at *
    rw [show (⟨#[46]⟩ : ByteArray) = tx [46] from rfl, show (⟨#[47]⟩ : ByteArray) = tx [47] from rfl]
    refine Evt.bind n0 (Evt.ite_pos (by rw [tx_size]; omega) (Evt.bind n1 ?_))
    simp only [tx_app, tx_size]
    refine Evt.ite_pos (by simp; omega) (Evt.ite_pos (by simp; omega) (Evt.bind n2 ?_))
    simp only [tx_app, tx_size]
    refine Evt.ite_pos (by simp; omega) (Evt.ite_pos (by simp; omega) (Evt.bind n3 ?_))
    simp only [tx_app, tx_size]
    refine Evt.ite_pos (by simp; omega) (Evt.ite_pos (by simp; omega) (Evt.bind n4 ?_))
    simp only [tx_app, tx_size]
    refine Evt.ite_pos (by simp; omega) (Evt.of fun k => ?_)
    simp
  · rw [if_neg hm]
    exact Evt.ite_neg hm (Evt.pure _)
end Go.Proofs.YtckffheolnmcnaaDoor.P

end
section
set_option linter.unusedVariables false
set_option linter.unusedSimpArgs false
namespace Go.Proofs.YtckffheolnmcnaaDoor.P
open Go.RowKit Go.Proofs.YtckffheolnmcnaaDoorW.PrintWords Go.Proofs.YtckffheolnmcnaaDoorW.PrintLast Go.Proofs.YtckffheolnmcnaaDoorW.PrintMore

theorem sort_two : sortP [(⟨167772160, 9⟩ : S24), ⟨176160768, 9⟩] = [(⟨167772160, 9⟩ : S24), ⟨176160768, 9⟩] := by
  unfold sortP
  apply List.mergeSort_of_pairwise
  decide
theorem lives_ev : Evt (fun k => whirligiglaw01_lives.f k) true := by
  refine Evt.of_mono (K := 12) (fun k => whirligiglaw01_lives.mono k) ?_
  unfold whirligiglaw01_lives.f addr_Plain.f addr_plain.f
  rw [sort_two]
  decide +kernel
end Go.Proofs.YtckffheolnmcnaaDoor.P

end
section
namespace Go.Proofs.YtckffheolnmcnaaDoor.Pure
open Go.RowKit Go.Proofs.YtckffheolnmcnaaDoor.P Go.Proofs.YtckffheolnmcnaaDoorW.PrintWords Go.Proofs.YtckffheolnmcnaaDoorW.PrintLast Go.Proofs.YtckffheolnmcnaaDoorW.PrintMore
set_option linter.unusedVariables false
set_option linter.unusedSimpArgs false

theorem AddrTexts (x0 : S24) (x1 : ByteArray) (ok_0 : (ok24) x0) (ok_1 : (okS) x1) : ∃ k, Go.Proofs.YtckffheolnmcnaaDoor.P.whirligiglaw01_AddrTexts.f k x0.f0 x0.f1 x1 = some true := by
  obtain ⟨a, b⟩ := x0
  have ha : isA a := okI_u32 ok_0.1
  show ∃ k, Go.Proofs.YtckffheolnmcnaaDoor.P.whirligiglaw01_AddrTexts.f k a b x1 = some true
  obtain ⟨s, rfl⟩ : ∃ s, x1 = tx s := ⟨x1.data.toList, by unfold tx; simp⟩
  refine Evt.ex ?_
  have hL : Evt (fun k => (whirligiglaw01_lives.f k).bind fun t => some t) true := Evt.bind lives_ev (Evt.pure _)
  unfold whirligiglaw01_AddrTexts.f
  by_cases h : ((tx s).size : Int) > 2000
  · exact Evt.ite_pos h hL
  · rw [tx_size] at h
    refine Evt.ite_neg (by rw [tx_size]; exact h) ?_
    refine Evt.bind (progParse_ev s (by omega)) (Evt.bind (refParse_ev s (by omega)) (Evt.bindc (may_is a b ha) (Evt.bind (refMay_ev a b ha) (Evt.ite_pos (by simp) (Evt.bind (progText_ev a b ha) (Evt.bind (refText_ev a b ha) (Evt.ite_pos rfl (Evt.ite_pos (by simp) (Evt.ite_pos rfl hL)))))))))
end Go.Proofs.YtckffheolnmcnaaDoor.Pure

end

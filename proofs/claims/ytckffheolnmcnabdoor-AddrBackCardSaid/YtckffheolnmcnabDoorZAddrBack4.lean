/- Part of the proof of RowAddrBack: what it asks of functions, words and plain facts (put together by this session's own program, wip/tools/shake.py). -/
import Derived.Test.YtckffheolnmcnabDoorZAddrBack0
import Derived.Test.YtckffheolnmcnabDoorZAddrBack1
import Derived.Test.YtckffheolnmcnabDoorZAddrBack2
import Derived.Test.YtckffheolnmcnabDoorZAddrBack3
import Derived.Deep.Slices
import Derived.ChangeArms
import Derived.OpenShut
import Derived.SizedLaws
import Derived.KernelRfl
import Derived.Lib.IndexLaws
import Derived.Lib.SplitLaws
import Derived.Lib.IndexBytes
section
namespace Go.Proofs.YtckffheolnmcnabDoor.P
open Go.RowKit Go.Proofs.YtckffheolnmcnabDoorW.PrintWords Go.Proofs.YtckffheolnmcnabDoorW.PrintLast Go.Proofs.YtckffheolnmcnabDoorW.PrintMore
attribute [local go_sem] max2_int min2_int max_two min_two max_three min_three max_four min_four   -- for this text's walks alone
set_option linter.unusedVariables false
set_option linter.unusedSimpArgs false

attribute [local go_sem high] eqA24
def whirligiglaw01_AddrBack.j0 : Nat → ByteArray → Bool → Option (Bool)
  | 0, _, _ => none
  | k + 1, x1, x32 => if x32 = true then (some false) else ((addr_Parse.f k x1).bind fun bt179 => (if bt179.2.2 = 0 then ((addr_Text.f k bt179.1 bt179.2.1).bind fun t183 => (if t183.toList = x1.toList then ((addr_May.f bt179.1 bt179.2.1).bind fun t184 => (if t184 = true then ((whirligiglaw01_lives.f k).bind fun t185 => (some t185)) else (some false))) else (some false))) else ((whirligiglaw01_lives.f k).bind fun t186 => (some t186))))
def whirligiglaw01_AddrBack.f (k : Nat) (a0_0 : Int) (a0_1 : Int) (a1 : ByteArray) : Option (Bool) := if (a1.size : Int) > 2000 then ((whirligiglaw01_lives.f k).bind fun t172 => (some t172)) else ((addr_Text.f k a0_0 a0_1).bind fun t173 => ((addr_Parse.f k t173).bind fun bt174 => ((addr_May.f a0_0 a0_1).bind fun t178 => (if (t178 != (bt174.2.2 == 0)) = true then (whirligiglaw01_AddrBack.j0 k a1 true) else (if bt174.2.2 = 0 then (whirligiglaw01_AddrBack.j0 k a1 (!(bt174.1 == a0_0) || (!(bt174.2.1 == a0_1)))) else (whirligiglaw01_AddrBack.j0 k a1 false))))))
theorem ka3bb.q {w W W' : World} {g : Nat} {o : Obj} (h : w.heap[g]? = some o) (hb : Below W.heap.size W W') (e : W.heap = w.heap) : W'.heap[g]? = some o := blk_below (e ▸ h) hb
theorem ka3bb.z {w0 w W W' : World} (h : Below w0.heap.size w0 w) (hb : Below W.heap.size W W') (e : W.heap = w.heap) (e1 : W.os = w.os) (e2 : W.tape = w.tape) (e3 : W.output = w.output) : Below w0.heap.size w0 W' := below_step ⟨e1.trans h.os, e2.trans h.tape, e3.trans h.output, e ▸ h.size, fun k hk => by rw [e]; exact h.block k hk⟩ hb
set_option maxHeartbeats 8000000 in
set_option maxRecDepth 100000 in
theorem whirligiglaw01_AddrBack.calls (k : Nat) (al : Int) (am : Int) (a1 : ByteArray) (r : Bool) (w : World) (h : whirligiglaw01_AddrBack.f k al am a1 = some r) :
  Calls Tryd.prog 3 #[.agg #[.int .u32 al, .int .i64 am], .string a1] w fun e w' => e = .returned (.bool r) ∧ Below w.heap.size w w' := by
 have hu24 := Tryd.underlying24
 have HB := Aside0.mk (Below.refl w.heap.size w)
 have H := h
 unfold whirligiglaw01_AddrBack.f at H
 clear h
 by_cases c3 : (a1.size : Int) > 2000
 ·rw [if_pos c3] at H
  have c3b0 : decide (2000 < (a1.size : Int)) = true := decide_eq_true c3
  have c3b1 : decide (2000 < a1.size) = true := decide_eq_true (by omega)
  clear c3
  replace H := Option.bind_eq_some_iff.mp H
  obtain ⟨t172, A40, H⟩ := H
  replace H : (some t172) = some r := H
  have A4 := Aside0.mk A40
  clear A40
  obtain rfl := Option.some.inj H
  go_enter Tryd.func3, Tryd.ntmps3
  go_wp2_with (first | ((with_reducible refine gate_dst (N := 2) rfl ?_); refine box_event ?hg (N := 2) ?hd (cs := #[.int .u32 al, .int .i64 am]) (t := 24) ?hr ?_; (case hd => rfl); (case hg => rfl); (case hr => first | (go_simp; done) | (go_simp; rfl)); intro ac hg w5 hbox hb; have n0_ := Aside0.mk (ka3bb.z HB.out hb rfl rfl rfl rfl); have n1_ := Aside0.mk (hbox); have n2_ := Aside0.mk ((by rw [hg]; exact (below_size (by repeat (first | (with_reducible first | exact HB.out | apply below_alloc | apply pw_below_drewN | apply below_drew1) | exact HB.out))) : w.heap.size ≤ ac)); have n3_ := Aside0.mk ((by rw [hg]; exact (below_size (by repeat (first | (with_reducible first | exact HB.out | apply below_alloc | apply pw_below_drewN | apply below_drew1) | exact HB.out))) : w.heap.size ≤ ac)); clear HB; have HB := n0_; have aa := n1_; have GW171 := n2_; have ae := n3_; clear n0_ n1_ n2_ n3_; clear hb hbox hg) | ((with_reducible refine gate_callee (f := 4) rfl ?_); refine goesL_ (some 12) rfl rfl Tryd.func4 (by kernel_rfl) rfl #[] rfl (by (try simp only [List.map_toArray, List.map_cons, List.map_nil]); first | done | rfl) ?_; (with_reducible refine (whirligiglaw01_lives.calls k  t172 _ A4.out).mono ?_); rintro e w6 ⟨rfl, hb⟩; refine ⟨_, rfl, ?_⟩; replace aa := Aside0.mk (ka3bb.q aa.out hb rfl); replace HB := Aside0.mk (below_step (by repeat (first | (with_reducible first | exact HB.out | apply below_alloc | apply pw_below_drewN | apply below_drew1 | refine below_set ?_ ae.out) | exact HB.out)) hb); (try clear hb); (try clear ao); (try clear hk); (try clear hi)))
  go_ret
  exact ⟨by first | rfl | (simp [errW_none, errW_some] <;> rfl) | (simp [*, errW_none, errW_some] <;> rfl), by repeat (first | (with_reducible first | exact HB.out | apply below_alloc | apply pw_below_drewN | apply below_drew1 | refine below_set ?_ ae.out) | exact HB.out)⟩
 ·rw [if_neg c3] at H
  have c3b0 : decide (2000 < (a1.size : Int)) = false := decide_eq_false c3
  have c3b1 : decide (2000 < a1.size) = false := decide_eq_false (by omega)
  clear c3
  replace H := Option.bind_eq_some_iff.mp H
  obtain ⟨t173, A70, H⟩ := H
  (try dsimp only at H)
  have A7 := Aside0.mk A70
  clear A70
  replace H := Option.bind_eq_some_iff.mp H
  obtain ⟨⟨t174, t175, t176⟩, A80, H⟩ := H
  (try dsimp only at H)
  have A8 := Aside0.mk A80
  clear A80
  have HC9 := Aside0.mk H
  clear H
  go_enter Tryd.func3, Tryd.ntmps3
  go_upto_region 4 with (first | ((with_reducible refine gate_dst (N := 2) rfl ?_); refine box_event ?hg (N := 2) ?hd (cs := #[.int .u32 al, .int .i64 am]) (t := 24) ?hr ?_; (case hd => rfl); (case hg => rfl); (case hr => first | (go_simp; done) | (go_simp; rfl)); intro ac hg w10 hbox hb; have n0_ := Aside0.mk (ka3bb.z HB.out hb rfl rfl rfl rfl); have n1_ := Aside0.mk (hbox); have n2_ := Aside0.mk ((by rw [hg]; exact (below_size (by repeat (first | (with_reducible first | exact HB.out | apply below_alloc | apply pw_below_drewN | apply below_drew1) | exact HB.out))) : w.heap.size ≤ ac)); have n3_ := Aside0.mk ((by rw [hg]; exact (below_size (by repeat (first | (with_reducible first | exact HB.out | apply below_alloc | apply pw_below_drewN | apply below_drew1) | exact HB.out))) : w.heap.size ≤ ac)); clear HB; have HB := n0_; have aa := n1_; have GW171 := n2_; have ae := n3_; clear n0_ n1_ n2_ n3_; clear hb hbox hg; have hcz11_0 : w10.cell? ⟨ac, 0, none⟩ = some (.int .u32 al) := (blk_cell aa.out 0).trans rfl; have hcz11_1 : w10.cell? ⟨ac, 1, none⟩ = some (.int .i64 am) := (blk_cell aa.out 1).trans rfl; have hfz11_0 := blk_frozen aa.out 0; have hfz11_1 := blk_frozen aa.out 1) | ((with_reducible refine gate_callee (f := 6) rfl ?_); refine goesL_ (some 15) rfl rfl Tryd.func6 (by kernel_rfl) rfl #[.agg #[.int .u32 al, .int .i64 am]] rfl (by (try simp only [List.map_toArray, List.map_cons, List.map_nil]); first | done | rfl) ?_; (with_reducible refine (addr_Text.calls k al am t173 _ A7.out).mono ?_); rintro e w12 ⟨rfl, hb⟩; refine ⟨_, rfl, ?_⟩; replace aa := Aside0.mk (ka3bb.q aa.out hb rfl); replace HB := Aside0.mk (below_step (by repeat (first | (with_reducible first | exact HB.out | apply below_alloc | apply pw_below_drewN | apply below_drew1 | refine below_set ?_ ae.out) | exact HB.out)) hb); (try clear hb); (try clear ao); (try clear hk); (try clear hi)) | ((with_reducible refine gate_callee (f := 5) rfl ?_); refine goesL_ (some 16) rfl rfl Tryd.func5 (by kernel_rfl) rfl #[.string t173] rfl (by (try simp only [List.map_toArray, List.map_cons, List.map_nil]); first | done | rfl) ?_; (with_reducible refine (addr_Parse.calls k t173 t174 t175 t176 _ A8.out).mono ?_); rintro e w13 ⟨rfl, hb⟩; refine ⟨_, rfl, ?_⟩; replace aa := Aside0.mk (ka3bb.q aa.out hb rfl); replace HB := Aside0.mk (below_step (by repeat (first | (with_reducible first | exact HB.out | apply below_alloc | apply pw_below_drewN | apply below_drew1 | refine below_set ?_ ae.out) | exact HB.out)) hb); (try clear hb); (try clear ao); (try clear hk); (try clear hi)) | ((with_reducible refine gate_dst (N := 5) rfl ?_); refine box_event ?hg (N := 5) ?hd (cs := #[.int .u32 0, .int .i64 0]) (t := 24) ?hr ?_; (case hd => rfl); (case hg => rfl); (case hr => first | (go_simp; done) | (go_simp; rfl)); intro aj hg w14 hbox hb; have n0_ := Aside0.mk (ka3bb.q aa.out hb rfl); have n1_ := Aside0.mk (below_step (by repeat (first | (with_reducible first | exact HB.out | apply below_alloc | apply pw_below_drewN | apply below_drew1 | refine below_set ?_ ae.out) | exact HB.out)) hb); have n2_ := Aside0.mk (hbox); have n3_ := Aside0.mk ((by rw [hg]; exact (below_size (by repeat (first | (with_reducible first | exact HB.out | apply below_alloc | apply pw_below_drewN | apply below_drew1 | refine below_set ?_ ae.out) | exact HB.out))) : w.heap.size ≤ aj)); have n4_ := Aside0.mk ((by rw [hg]; exact (below_size (by repeat (first | (with_reducible first | exact HB.out | apply below_alloc | apply pw_below_drewN | apply below_drew1 | refine below_set ?_ ae.out) | exact HB.out))) : w.heap.size ≤ aj)); have n5_ := Aside0.mk ((by rw [hg]; exact Nat.ne_of_lt (blk_lt (g := ac) (o := .cells #[.int .u32 al, .int .i64 am] 24 (0, 0)) (by (with_reducible repeat (first | refine blk_drewN ?_ _ | refine blk_drew ?_ | refine blk_alloc ?_ _)); exact aa.out)) : ac ≠ aj)); have n6_ := Aside0.mk ((by rw [hg]; exact Nat.ne_of_gt (blk_lt (g := ac) (o := .cells #[.int .u32 al, .int .i64 am] 24 (0, 0)) (by (with_reducible repeat (first | refine blk_drewN ?_ _ | refine blk_drew ?_ | refine blk_alloc ?_ _)); exact aa.out)) : aj ≠ ac)); clear aa; clear HB; have aa := n0_; have HB := n1_; have ab := n2_; have GW177 := n3_; have ai := n4_; have ak := n5_; have NB177_171 := n6_; clear n0_ n1_ n2_ n3_ n4_ n5_ n6_; clear hb hbox hg; have hnb15 := NB177_171.out; have hnc15 := ak.out; have hcz16_0 : w14.cell? ⟨aj, 0, none⟩ = some (.int .u32 0) := (blk_cell ab.out 0).trans rfl; have hcz16_1 : w14.cell? ⟨aj, 1, none⟩ = some (.int .i64 0) := (blk_cell ab.out 1).trans rfl; have hfz16_0 := blk_frozen ab.out 0; have hfz16_1 := blk_frozen ab.out 1))
  (try simp only [Act.put, List.setIfInBounds_toArray, List.set_cons_zero, List.set_cons_succ])
  go_cut [32] (fun v32 wc => ∃ (kq : Nat) (x32_8 : Bool), v32 = .bool x32_8 ∧ Aside0 (whirligiglaw01_AddrBack.j0 kq a1 x32_8 = some r) ∧ Aside0 (kq ≤ k) ∧ Aside0 (wc.heap[ac]? = some (.cells #[.int .u32 al, .int .i64 am] 24 (0, 0))) ∧ Aside0 (wc.heap[aj]? = some (.cells #[.int .u32 t174, .int .i64 t175] 24 (0, 0))) ∧ Aside0 (Below w.heap.size w wc))
  case first =>
   have H := HC9.out
   clear HC9
   replace H := Option.bind_eq_some_iff.mp H
   obtain ⟨t178, A170, H⟩ := H
   (try dsimp only at H)
   have A17 := Aside0.mk A170
   clear A170
   by_cases ap : (t178 != (t176 == 0)) = true
   ·rw [if_pos ap] at H
    have c18b0 : (t178 != (t176 == 0)) = true := ap
    (try (have c18b1 : decide (t178 = (t176 == 0)) = false := by simpa using ap))
    (try (have c18b2 : (t178 == (t176 == 0)) = false := by simpa using ap))
    (try (have c18b3 : ¬ (t178 = (t176 == 0)) := by simpa using ap))
    clear ap
    (first | rw [c18b0] | (simp only [i64_w]; rw [c18b0]) | skip)
    have H' := Aside0.mk H
    clear H
    have hnb19 := ak.out
    have hnc19 := NB177_171.out
    have hcz20_0 : w14.cell? ⟨ac, 0, none⟩ = some (.int .u32 al) := (blk_cell aa.out 0).trans rfl
    have hcz20_1 : w14.cell? ⟨ac, 1, none⟩ = some (.int .i64 am) := (blk_cell aa.out 1).trans rfl
    have hfz20_0 := blk_frozen aa.out 0
    have hfz20_1 := blk_frozen aa.out 1
    go_wp2_with (first | ((with_reducible refine gate_callee (f := 7) rfl ?_); refine goesL_ (some 20) rfl rfl Tryd.func7 (by kernel_rfl) rfl #[.agg #[.int .u32 al, .int .i64 am]] rfl (by (try simp only [List.map_toArray, List.map_cons, List.map_nil]); first | done | rfl) ?_; (with_reducible refine (addr_May.calls al am t178 _ A17.out).mono ?_); rintro e w21 ⟨rfl, hb⟩; refine ⟨_, rfl, ?_⟩; replace aa := Aside0.mk (blk_below (g := ac) (o := .cells #[.int .u32 al, .int .i64 am] 24 (0, 0)) (by (with_reducible repeat (first | refine blk_drewN ?_ _ | refine blk_drew ?_ | refine blk_alloc ?_ _)); refine blk_far ?_ ak.out _; (with_reducible repeat (first | refine blk_drewN ?_ _ | refine blk_drew ?_ | refine blk_alloc ?_ _)); refine blk_far ?_ ak.out _; (with_reducible repeat (first | refine blk_drewN ?_ _ | refine blk_drew ?_ | refine blk_alloc ?_ _)); exact aa.out) hb); replace ab := Aside0.mk (blk_below (g := aj) (o := .cells #[.int .u32 t174, .int .i64 t175] 24 (0, 0)) (by (with_reducible repeat (first | refine blk_drewN ?_ _ | refine blk_drew ?_ | refine blk_alloc ?_ _)); refine blk_put (cs := #[.int .u32 t174, .int .i64 0]) ?_ 1 _ rfl; (with_reducible repeat (first | refine blk_drewN ?_ _ | refine blk_drew ?_ | refine blk_alloc ?_ _)); refine blk_put (cs := #[.int .u32 0, .int .i64 0]) ?_ 0 _ rfl; (with_reducible repeat (first | refine blk_drewN ?_ _ | refine blk_drew ?_ | refine blk_alloc ?_ _)); exact ab.out) hb); replace HB := Aside0.mk (below_step (by repeat (first | (with_reducible first | exact HB.out | apply below_alloc | apply pw_below_drewN | apply below_drew1 | refine below_set ?_ ae.out | refine below_set ?_ ai.out) | exact HB.out)) hb); (try clear hb); (try clear ao); (try clear hk); (try clear hi)))
    go_meet
    case rel => exact ⟨_, (true), (by first | rfl | (simp; done) | (simp [*]; done)), H', ⟨by first | omega | exact Nat.le_refl _⟩, ⟨by (with_reducible repeat (first | refine blk_drewN ?_ _ | refine blk_drew ?_ | refine blk_alloc ?_ _)); exact aa.out⟩, ⟨by (with_reducible repeat (first | refine blk_drewN ?_ _ | refine blk_drew ?_ | refine blk_alloc ?_ _)); exact ab.out⟩, ⟨by repeat (first | (with_reducible first | exact HB.out | apply below_alloc | apply pw_below_drewN | apply below_drew1 | refine below_set ?_ ae.out | refine below_set ?_ ai.out) | exact HB.out)⟩⟩
   ·rw [if_neg ap] at H
    have c18b0 : (t178 != (t176 == 0)) = false := by simpa using ap
    (try (have c18b1 : decide (t178 = (t176 == 0)) = true := by simpa using ap))
    (try (have c18b2 : (t178 == (t176 == 0)) = true := by simpa using ap))
    clear ap
    (first | rw [c18b0] | (simp only [i64_w]; rw [c18b0]) | skip)
    by_cases ar : t176 = 0
    ·rw [if_pos ar] at H
     have c22b0 : (t176 == 0) = true := beq_iff_eq.mpr ar
     try (have ls1 := c18b0; rw [c22b0] at ls1; simp at ls1)
     have c22b1 : (t176 != 0) = false := bne_eq_false_iff_eq.mpr ar
     clear ar
     have H' := Aside0.mk H
     clear H
     have hnb23 := ak.out
     have hnc23 := NB177_171.out
     have hcz24_0 : w14.cell? ⟨ac, 0, none⟩ = some (.int .u32 al) := (blk_cell aa.out 0).trans rfl
     have hcz24_1 : w14.cell? ⟨ac, 1, none⟩ = some (.int .i64 am) := (blk_cell aa.out 1).trans rfl
     have hfz24_0 := blk_frozen aa.out 0
     have hfz24_1 := blk_frozen aa.out 1
     go_wp2_with (first | ((with_reducible refine gate_callee (f := 7) rfl ?_); refine goesL_ (some 20) rfl rfl Tryd.func7 (by kernel_rfl) rfl #[.agg #[.int .u32 al, .int .i64 am]] rfl (by (try simp only [List.map_toArray, List.map_cons, List.map_nil]); first | done | rfl) ?_; (with_reducible refine (addr_May.calls al am t178 _ A17.out).mono ?_); rintro e w25 ⟨rfl, hb⟩; refine ⟨_, rfl, ?_⟩; replace aa := Aside0.mk (blk_below (g := ac) (o := .cells #[.int .u32 al, .int .i64 am] 24 (0, 0)) (by (with_reducible repeat (first | refine blk_drewN ?_ _ | refine blk_drew ?_ | refine blk_alloc ?_ _)); refine blk_far ?_ ak.out _; (with_reducible repeat (first | refine blk_drewN ?_ _ | refine blk_drew ?_ | refine blk_alloc ?_ _)); refine blk_far ?_ ak.out _; (with_reducible repeat (first | refine blk_drewN ?_ _ | refine blk_drew ?_ | refine blk_alloc ?_ _)); exact aa.out) hb); replace ab := Aside0.mk (blk_below (g := aj) (o := .cells #[.int .u32 t174, .int .i64 t175] 24 (0, 0)) (by (with_reducible repeat (first | refine blk_drewN ?_ _ | refine blk_drew ?_ | refine blk_alloc ?_ _)); refine blk_put (cs := #[.int .u32 t174, .int .i64 0]) ?_ 1 _ rfl; (with_reducible repeat (first | refine blk_drewN ?_ _ | refine blk_drew ?_ | refine blk_alloc ?_ _)); refine blk_put (cs := #[.int .u32 0, .int .i64 0]) ?_ 0 _ rfl; (with_reducible repeat (first | refine blk_drewN ?_ _ | refine blk_drew ?_ | refine blk_alloc ?_ _)); exact ab.out) hb); replace HB := Aside0.mk (below_step (by repeat (first | (with_reducible first | exact HB.out | apply below_alloc | apply pw_below_drewN | apply below_drew1 | refine below_set ?_ ae.out | refine below_set ?_ ai.out) | exact HB.out)) hb); (try clear hb); (try clear ao); (try clear hk); (try clear hi); have hcz26_0 : w25.cell? ⟨aj, 0, none⟩ = some (.int .u32 t174) := (blk_cell ab.out 0).trans rfl; have hcz26_1 : w25.cell? ⟨aj, 1, none⟩ = some (.int .i64 t175) := (blk_cell ab.out 1).trans rfl; have hfz26_0 := blk_frozen ab.out 0; have hfz26_1 := blk_frozen ab.out 1; have hcz27_0 : w25.cell? ⟨ac, 0, none⟩ = some (.int .u32 al) := (blk_cell aa.out 0).trans rfl; have hcz27_1 : w25.cell? ⟨ac, 1, none⟩ = some (.int .i64 am) := (blk_cell aa.out 1).trans rfl; have hfz27_0 := blk_frozen aa.out 0; have hfz27_1 := blk_frozen aa.out 1))
     go_meet
     case rel => exact ⟨_, ((!(t174 == al) || (!(t175 == am)))), (by first | rfl | (simp; done) | (simp [*]; done)), H', ⟨by first | omega | exact Nat.le_refl _⟩, ⟨by (with_reducible repeat (first | refine blk_drewN ?_ _ | refine blk_drew ?_ | refine blk_alloc ?_ _)); exact aa.out⟩, ⟨by (with_reducible repeat (first | refine blk_drewN ?_ _ | refine blk_drew ?_ | refine blk_alloc ?_ _)); exact ab.out⟩, ⟨by repeat (first | (with_reducible first | exact HB.out | apply below_alloc | apply pw_below_drewN | apply below_drew1 | refine below_set ?_ ae.out | refine below_set ?_ ai.out) | exact HB.out)⟩⟩
    ·rw [if_neg ar] at H
     have c22b0 : (t176 == 0) = false := beq_eq_false_iff_ne.mpr ar
     try (have ls2 := c18b0; rw [c22b0] at ls2; simp at ls2)
     have c22b1 : (t176 != 0) = true := bne_iff_ne.mpr ar
     have H' := Aside0.mk H
     clear H
     have hnb28 := ak.out
     have hnc28 := NB177_171.out
     have hcz29_0 : w14.cell? ⟨ac, 0, none⟩ = some (.int .u32 al) := (blk_cell aa.out 0).trans rfl
     have hcz29_1 : w14.cell? ⟨ac, 1, none⟩ = some (.int .i64 am) := (blk_cell aa.out 1).trans rfl
     have hfz29_0 := blk_frozen aa.out 0
     have hfz29_1 := blk_frozen aa.out 1
     go_wp2_with (first | ((with_reducible refine gate_callee (f := 7) rfl ?_); refine goesL_ (some 20) rfl rfl Tryd.func7 (by kernel_rfl) rfl #[.agg #[.int .u32 al, .int .i64 am]] rfl (by (try simp only [List.map_toArray, List.map_cons, List.map_nil]); first | done | rfl) ?_; (with_reducible refine (addr_May.calls al am t178 _ A17.out).mono ?_); rintro e w30 ⟨rfl, hb⟩; refine ⟨_, rfl, ?_⟩; replace aa := Aside0.mk (blk_below (g := ac) (o := .cells #[.int .u32 al, .int .i64 am] 24 (0, 0)) (by (with_reducible repeat (first | refine blk_drewN ?_ _ | refine blk_drew ?_ | refine blk_alloc ?_ _)); refine blk_far ?_ ak.out _; (with_reducible repeat (first | refine blk_drewN ?_ _ | refine blk_drew ?_ | refine blk_alloc ?_ _)); refine blk_far ?_ ak.out _; (with_reducible repeat (first | refine blk_drewN ?_ _ | refine blk_drew ?_ | refine blk_alloc ?_ _)); exact aa.out) hb); replace ab := Aside0.mk (blk_below (g := aj) (o := .cells #[.int .u32 t174, .int .i64 t175] 24 (0, 0)) (by (with_reducible repeat (first | refine blk_drewN ?_ _ | refine blk_drew ?_ | refine blk_alloc ?_ _)); refine blk_put (cs := #[.int .u32 t174, .int .i64 0]) ?_ 1 _ rfl; (with_reducible repeat (first | refine blk_drewN ?_ _ | refine blk_drew ?_ | refine blk_alloc ?_ _)); refine blk_put (cs := #[.int .u32 0, .int .i64 0]) ?_ 0 _ rfl; (with_reducible repeat (first | refine blk_drewN ?_ _ | refine blk_drew ?_ | refine blk_alloc ?_ _)); exact ab.out) hb); replace HB := Aside0.mk (below_step (by repeat (first | (with_reducible first | exact HB.out | apply below_alloc | apply pw_below_drewN | apply below_drew1 | refine below_set ?_ ae.out | refine below_set ?_ ai.out) | exact HB.out)) hb); (try clear hb); (try clear ao); (try clear hk); (try clear hi)))
     go_meet
     case rel => exact ⟨_, (false), (by first | rfl | (simp; done) | (simp [*]; done)), H', ⟨by first | omega | exact Nat.le_refl _⟩, ⟨by (with_reducible repeat (first | refine blk_drewN ?_ _ | refine blk_drew ?_ | refine blk_alloc ?_ _)); exact aa.out⟩, ⟨by (with_reducible repeat (first | refine blk_drewN ?_ _ | refine blk_drew ?_ | refine blk_alloc ?_ _)); exact ab.out⟩, ⟨by repeat (first | (with_reducible first | exact HB.out | apply below_alloc | apply pw_below_drewN | apply below_drew1 | refine below_set ?_ ae.out | refine below_set ?_ ai.out) | exact HB.out)⟩⟩
  case rest =>
   clear HC9
   try clear c1
   try clear c2
   try clear p2
   try clear c3
   try clear c3b0
   try clear c3b1
   try clear c4
   try clear c5
   try clear c6
   try clear c7
   try clear c15
   try clear ap
   try clear c18b0
   try clear c18b1
   try clear c18b2
   try clear c19
   try clear ar
   try clear c22b0
   try clear c22b1
   try clear c23
   try clear c28
   try clear hcz11_0
   try clear hcz11_1
   try clear hcz16_0
   try clear hcz16_1
   try clear hcz20_0
   try clear hcz20_1
   try clear hcz24_0
   try clear hcz24_1
   try clear hcz26_0
   try clear hcz26_1
   try clear hcz27_0
   try clear hcz27_1
   try clear hcz29_0
   try clear hcz29_1
   try clear hfz11_0
   try clear hfz11_1
   try clear hfz16_0
   try clear hfz16_1
   try clear hfz20_0
   try clear hfz20_1
   try clear hfz24_0
   try clear hfz24_1
   try clear hfz26_0
   try clear hfz26_1
   try clear hfz27_0
   try clear hfz27_1
   try clear hfz29_0
   try clear hfz29_1
   obtain ⟨kq, x32_8, rfl, HA, HJ8, aa, ab, HB⟩ := hcut
   cases kq with
   | zero => exact absurd HA.out (by simp [whirligiglaw01_AddrBack.j0])
   | succ aq =>
    have H := HA.out
    clear HA
    simp only [whirligiglaw01_AddrBack.j0] at H
    by_cases c31 : x32_8 = true
    ·subst c31
     have H1 : (some false) = some r := by rw [if_pos rfl] at H; exact H
     clear H
     have H := H1
     clear H1
     obtain rfl := Option.some.inj H
     go_wp2
     go_ret
     exact ⟨by first | rfl | (simp [errW_none, errW_some] <;> rfl) | (simp [*, errW_none, errW_some] <;> rfl), by repeat (first | (with_reducible first | exact HB.out | apply below_alloc | apply pw_below_drewN | apply below_drew1 | refine below_set ?_ ae.out | refine below_set ?_ ai.out) | exact HB.out)⟩
    ·replace c31 := Bool.eq_false_iff.mpr c31
     subst c31
     have H1 := H
     rw [if_neg (show ¬ (false = true) by decide)] at H1
     clear H
     have H := H1
     clear H1
     replace H := Option.bind_eq_some_iff.mp H
     obtain ⟨⟨t179, t180, t181⟩, A320, H⟩ := H
     (try dsimp only at H)
     have A32 := Aside0.mk A320
     clear A320
     by_cases c33 : t181 = 0
     ·rw [if_pos c33] at H
      have c33b0 : (t181 == 0) = true := beq_iff_eq.mpr c33
      have c33b1 : (t181 != 0) = false := bne_eq_false_iff_eq.mpr c33
      clear c33
      replace H := Option.bind_eq_some_iff.mp H
      obtain ⟨t183, A340, H⟩ := H
      (try dsimp only at H)
      have A34 := Aside0.mk A340
      clear A340
      by_cases c35 : t183.toList = a1.toList
      ·rw [if_pos c35] at H
       have c35b0 : (t183.toList == a1.toList) = true := beq_iff_eq.mpr c35
       have c35b1 : (t183.toList != a1.toList) = false := bne_eq_false_iff_eq.mpr c35
       clear c35
       replace H := Option.bind_eq_some_iff.mp H
       obtain ⟨t184, A360, H⟩ := H
       (try dsimp only at H)
       have A36 := Aside0.mk A360
       clear A360
       by_cases c37 : t184 = true
       ·subst c37
        have H1 : ((whirligiglaw01_lives.f aq).bind fun t185 => (some t185)) = some r := by rw [if_pos rfl] at H; exact H
        clear H
        have H := H1
        clear H1
        replace H := Option.bind_eq_some_iff.mp H
        obtain ⟨t185, A380, H⟩ := H
        replace H : (some t185) = some r := H
        have A38 := Aside0.mk A380
        clear A380
        obtain rfl := Option.some.inj H
        go_wp2_with (first | ((with_reducible refine gate_callee (f := 5) rfl ?_); refine goesL_ (some 35) rfl rfl Tryd.func5 (by kernel_rfl) rfl #[.string a1] rfl (by (try simp only [List.map_toArray, List.map_cons, List.map_nil]); first | done | rfl) ?_; (with_reducible refine (addr_Parse.calls aq a1 t179 t180 t181 _ A32.out).mono ?_); rintro e w39 ⟨rfl, hb⟩; refine ⟨_, rfl, ?_⟩; replace aa := Aside0.mk (ka3bb.q aa.out hb rfl); replace ab := Aside0.mk (ka3bb.q ab.out hb rfl); replace HB := Aside0.mk (below_step (by repeat (first | (with_reducible first | exact HB.out | apply below_alloc | apply pw_below_drewN | apply below_drew1 | refine below_set ?_ ae.out | refine below_set ?_ ai.out) | exact HB.out)) hb); (try clear hb); (try clear ao); (try clear hk); (try clear hi)) | ((with_reducible refine gate_dst (N := 7) rfl ?_); refine box_event ?hg (N := 7) ?hd (cs := #[.int .u32 0, .int .i64 0]) (t := 24) ?hr ?_; (case hd => rfl); (case hg => rfl); (case hr => first | (go_simp; done) | (go_simp; rfl)); intro ad hg w40 hbox hb; have n0_ := Aside0.mk (ka3bb.q aa.out hb rfl); have n1_ := Aside0.mk (ka3bb.q ab.out hb rfl); have n2_ := Aside0.mk (below_step (by repeat (first | (with_reducible first | exact HB.out | apply below_alloc | apply pw_below_drewN | apply below_drew1 | refine below_set ?_ ae.out | refine below_set ?_ ai.out) | exact HB.out)) hb); have n3_ := Aside0.mk (hbox); have n4_ := Aside0.mk ((by rw [hg]; exact (below_size (by repeat (first | (with_reducible first | exact HB.out | apply below_alloc | apply pw_below_drewN | apply below_drew1 | refine below_set ?_ ae.out | refine below_set ?_ ai.out) | exact HB.out))) : w.heap.size ≤ ad)); have n5_ := Aside0.mk ((by rw [hg]; exact (below_size (by repeat (first | (with_reducible first | exact HB.out | apply below_alloc | apply pw_below_drewN | apply below_drew1 | refine below_set ?_ ae.out | refine below_set ?_ ai.out) | exact HB.out))) : w.heap.size ≤ ad)); have n6_ := Aside0.mk ((by rw [hg]; exact Nat.ne_of_lt (blk_lt (g := ac) (o := .cells #[.int .u32 al, .int .i64 am] 24 (0, 0)) (by (with_reducible repeat (first | refine blk_drewN ?_ _ | refine blk_drew ?_ | refine blk_alloc ?_ _)); exact aa.out)) : ac ≠ ad)); have n7_ := Aside0.mk ((by rw [hg]; exact Nat.ne_of_gt (blk_lt (g := ac) (o := .cells #[.int .u32 al, .int .i64 am] 24 (0, 0)) (by (with_reducible repeat (first | refine blk_drewN ?_ _ | refine blk_drew ?_ | refine blk_alloc ?_ _)); exact aa.out)) : ad ≠ ac)); have n8_ := Aside0.mk ((by rw [hg]; exact Nat.ne_of_lt (blk_lt (g := aj) (o := .cells #[.int .u32 t174, .int .i64 t175] 24 (0, 0)) (by (with_reducible repeat (first | refine blk_drewN ?_ _ | refine blk_drew ?_ | refine blk_alloc ?_ _)); exact ab.out)) : aj ≠ ad)); have n9_ := Aside0.mk ((by rw [hg]; exact Nat.ne_of_gt (blk_lt (g := aj) (o := .cells #[.int .u32 t174, .int .i64 t175] 24 (0, 0)) (by (with_reducible repeat (first | refine blk_drewN ?_ _ | refine blk_drew ?_ | refine blk_alloc ?_ _)); exact ab.out)) : ad ≠ aj)); clear aa; clear ab; clear HB; have aa := n0_; have ab := n1_; have HB := n2_; have af := n3_; have GW182 := n4_; have an := n5_; have ag := n6_; have NB182_171 := n7_; have ah := n8_; have NB182_177 := n9_; clear n0_ n1_ n2_ n3_ n4_ n5_ n6_ n7_ n8_ n9_; clear hb hbox hg; have hnb41 := NB182_171.out; have hnc41 := ag.out; have hnb42 := NB182_177.out; have hnc42 := ah.out; have hcz43_0 : w40.cell? ⟨ad, 0, none⟩ = some (.int .u32 0) := (blk_cell af.out 0).trans rfl; have hcz43_1 : w40.cell? ⟨ad, 1, none⟩ = some (.int .i64 0) := (blk_cell af.out 1).trans rfl; have hfz43_0 := blk_frozen af.out 0; have hfz43_1 := blk_frozen af.out 1) | (go_at_call 6; (with_reducible refine (addr_Text.calls aq t179 t180 t183 _ A34.out).mono ?_); rintro e w44 ⟨rfl, hb⟩; replace aa := Aside0.mk (blk_below (g := ac) (o := .cells #[.int .u32 al, .int .i64 am] 24 (0, 0)) (by (with_reducible repeat (first | refine blk_drewN ?_ _ | refine blk_drew ?_ | refine blk_alloc ?_ _)); refine blk_far ?_ ag.out _; (with_reducible repeat (first | refine blk_drewN ?_ _ | refine blk_drew ?_ | refine blk_alloc ?_ _)); refine blk_far ?_ ag.out _; (with_reducible repeat (first | refine blk_drewN ?_ _ | refine blk_drew ?_ | refine blk_alloc ?_ _)); exact aa.out) hb); replace ab := Aside0.mk (blk_below (g := aj) (o := .cells #[.int .u32 t174, .int .i64 t175] 24 (0, 0)) (by (with_reducible repeat (first | refine blk_drewN ?_ _ | refine blk_drew ?_ | refine blk_alloc ?_ _)); refine blk_far ?_ ah.out _; (with_reducible repeat (first | refine blk_drewN ?_ _ | refine blk_drew ?_ | refine blk_alloc ?_ _)); refine blk_far ?_ ah.out _; (with_reducible repeat (first | refine blk_drewN ?_ _ | refine blk_drew ?_ | refine blk_alloc ?_ _)); exact ab.out) hb); replace af := Aside0.mk (blk_below (g := ad) (o := .cells #[.int .u32 t179, .int .i64 t180] 24 (0, 0)) (by (with_reducible repeat (first | refine blk_drewN ?_ _ | refine blk_drew ?_ | refine blk_alloc ?_ _)); refine blk_put (cs := #[.int .u32 t179, .int .i64 0]) ?_ 1 _ rfl; (with_reducible repeat (first | refine blk_drewN ?_ _ | refine blk_drew ?_ | refine blk_alloc ?_ _)); refine blk_put (cs := #[.int .u32 0, .int .i64 0]) ?_ 0 _ rfl; (with_reducible repeat (first | refine blk_drewN ?_ _ | refine blk_drew ?_ | refine blk_alloc ?_ _)); exact af.out) hb); replace HB := Aside0.mk (below_step (by repeat (first | (with_reducible first | exact HB.out | apply below_alloc | apply pw_below_drewN | apply below_drew1 | refine below_set ?_ ae.out | refine below_set ?_ ai.out | refine below_set ?_ an.out) | exact HB.out)) hb); (try clear hb); (try clear ao); (try clear hk); (try clear hi); have hcz45_0 : w44.cell? ⟨ad, 0, none⟩ = some (.int .u32 t179) := (blk_cell af.out 0).trans rfl; have hcz45_1 : w44.cell? ⟨ad, 1, none⟩ = some (.int .i64 t180) := (blk_cell af.out 1).trans rfl; have hfz45_0 := blk_frozen af.out 0; have hfz45_1 := blk_frozen af.out 1) | (go_at_call 7; (with_reducible refine (addr_May.calls t179 t180 true _ A36.out).mono ?_); rintro e w46 ⟨rfl, hb⟩; replace aa := Aside0.mk (ka3bb.q aa.out hb rfl); replace ab := Aside0.mk (ka3bb.q ab.out hb rfl); replace af := Aside0.mk (ka3bb.q af.out hb rfl); replace HB := Aside0.mk (below_step (by repeat (first | (with_reducible first | exact HB.out | apply below_alloc | apply pw_below_drewN | apply below_drew1 | refine below_set ?_ ae.out | refine below_set ?_ ai.out | refine below_set ?_ an.out) | exact HB.out)) hb); (try clear hb); (try clear ao); (try clear hk); (try clear hi)) | (go_at_call 4; (with_reducible refine (whirligiglaw01_lives.calls aq  t185 _ A38.out).mono ?_); rintro e w47 ⟨rfl, hb⟩; replace aa := Aside0.mk (ka3bb.q aa.out hb rfl); replace ab := Aside0.mk (ka3bb.q ab.out hb rfl); replace af := Aside0.mk (ka3bb.q af.out hb rfl); replace HB := Aside0.mk (below_step (by repeat (first | (with_reducible first | exact HB.out | apply below_alloc | apply pw_below_drewN | apply below_drew1 | refine below_set ?_ ae.out | refine below_set ?_ ai.out | refine below_set ?_ an.out) | exact HB.out)) hb); (try clear hb); (try clear ao); (try clear hk); (try clear hi)))
        go_ret
        exact ⟨by first | rfl | (simp [errW_none, errW_some] <;> rfl) | (simp [*, errW_none, errW_some] <;> rfl), by repeat (first | (with_reducible first | exact HB.out | apply below_alloc | apply pw_below_drewN | apply below_drew1 | refine below_set ?_ ae.out | refine below_set ?_ ai.out | refine below_set ?_ an.out) | exact HB.out)⟩
       ·replace c37 := Bool.eq_false_iff.mpr c37
        subst c37
        have H1 : (some false) = some r := by rw [if_neg (show ¬ (false = true) by decide)] at H; exact H
        clear H
        have H := H1
        clear H1
        obtain rfl := Option.some.inj H
        go_wp2_with (first | ((with_reducible refine gate_callee (f := 5) rfl ?_); refine goesL_ (some 35) rfl rfl Tryd.func5 (by kernel_rfl) rfl #[.string a1] rfl (by (try simp only [List.map_toArray, List.map_cons, List.map_nil]); first | done | rfl) ?_; (with_reducible refine (addr_Parse.calls aq a1 t179 t180 t181 _ A32.out).mono ?_); rintro e w48 ⟨rfl, hb⟩; refine ⟨_, rfl, ?_⟩; replace aa := Aside0.mk (ka3bb.q aa.out hb rfl); replace ab := Aside0.mk (ka3bb.q ab.out hb rfl); replace HB := Aside0.mk (below_step (by repeat (first | (with_reducible first | exact HB.out | apply below_alloc | apply pw_below_drewN | apply below_drew1 | refine below_set ?_ ae.out | refine below_set ?_ ai.out) | exact HB.out)) hb); (try clear hb); (try clear ao); (try clear hk); (try clear hi)) | ((with_reducible refine gate_dst (N := 7) rfl ?_); refine box_event ?hg (N := 7) ?hd (cs := #[.int .u32 0, .int .i64 0]) (t := 24) ?hr ?_; (case hd => rfl); (case hg => rfl); (case hr => first | (go_simp; done) | (go_simp; rfl)); intro ad hg w49 hbox hb; have n0_ := Aside0.mk (ka3bb.q aa.out hb rfl); have n1_ := Aside0.mk (ka3bb.q ab.out hb rfl); have n2_ := Aside0.mk (below_step (by repeat (first | (with_reducible first | exact HB.out | apply below_alloc | apply pw_below_drewN | apply below_drew1 | refine below_set ?_ ae.out | refine below_set ?_ ai.out) | exact HB.out)) hb); have n3_ := Aside0.mk (hbox); have n4_ := Aside0.mk ((by rw [hg]; exact (below_size (by repeat (first | (with_reducible first | exact HB.out | apply below_alloc | apply pw_below_drewN | apply below_drew1 | refine below_set ?_ ae.out | refine below_set ?_ ai.out) | exact HB.out))) : w.heap.size ≤ ad)); have n5_ := Aside0.mk ((by rw [hg]; exact (below_size (by repeat (first | (with_reducible first | exact HB.out | apply below_alloc | apply pw_below_drewN | apply below_drew1 | refine below_set ?_ ae.out | refine below_set ?_ ai.out) | exact HB.out))) : w.heap.size ≤ ad)); have n6_ := Aside0.mk ((by rw [hg]; exact Nat.ne_of_lt (blk_lt (g := ac) (o := .cells #[.int .u32 al, .int .i64 am] 24 (0, 0)) (by (with_reducible repeat (first | refine blk_drewN ?_ _ | refine blk_drew ?_ | refine blk_alloc ?_ _)); exact aa.out)) : ac ≠ ad)); have n7_ := Aside0.mk ((by rw [hg]; exact Nat.ne_of_gt (blk_lt (g := ac) (o := .cells #[.int .u32 al, .int .i64 am] 24 (0, 0)) (by (with_reducible repeat (first | refine blk_drewN ?_ _ | refine blk_drew ?_ | refine blk_alloc ?_ _)); exact aa.out)) : ad ≠ ac)); have n8_ := Aside0.mk ((by rw [hg]; exact Nat.ne_of_lt (blk_lt (g := aj) (o := .cells #[.int .u32 t174, .int .i64 t175] 24 (0, 0)) (by (with_reducible repeat (first | refine blk_drewN ?_ _ | refine blk_drew ?_ | refine blk_alloc ?_ _)); exact ab.out)) : aj ≠ ad)); have n9_ := Aside0.mk ((by rw [hg]; exact Nat.ne_of_gt (blk_lt (g := aj) (o := .cells #[.int .u32 t174, .int .i64 t175] 24 (0, 0)) (by (with_reducible repeat (first | refine blk_drewN ?_ _ | refine blk_drew ?_ | refine blk_alloc ?_ _)); exact ab.out)) : ad ≠ aj)); clear aa; clear ab; clear HB; have aa := n0_; have ab := n1_; have HB := n2_; have af := n3_; have GW182 := n4_; have an := n5_; have ag := n6_; have NB182_171 := n7_; have ah := n8_; have NB182_177 := n9_; clear n0_ n1_ n2_ n3_ n4_ n5_ n6_ n7_ n8_ n9_; clear hb hbox hg; have hnb50 := NB182_171.out; have hnc50 := ag.out; have hnb51 := NB182_177.out; have hnc51 := ah.out; have hcz52_0 : w49.cell? ⟨ad, 0, none⟩ = some (.int .u32 0) := (blk_cell af.out 0).trans rfl; have hcz52_1 : w49.cell? ⟨ad, 1, none⟩ = some (.int .i64 0) := (blk_cell af.out 1).trans rfl; have hfz52_0 := blk_frozen af.out 0; have hfz52_1 := blk_frozen af.out 1) | (go_at_call 6; (with_reducible refine (addr_Text.calls aq t179 t180 t183 _ A34.out).mono ?_); rintro e w53 ⟨rfl, hb⟩; replace aa := Aside0.mk (blk_below (g := ac) (o := .cells #[.int .u32 al, .int .i64 am] 24 (0, 0)) (by (with_reducible repeat (first | refine blk_drewN ?_ _ | refine blk_drew ?_ | refine blk_alloc ?_ _)); refine blk_far ?_ ag.out _; (with_reducible repeat (first | refine blk_drewN ?_ _ | refine blk_drew ?_ | refine blk_alloc ?_ _)); refine blk_far ?_ ag.out _; (with_reducible repeat (first | refine blk_drewN ?_ _ | refine blk_drew ?_ | refine blk_alloc ?_ _)); exact aa.out) hb); replace ab := Aside0.mk (blk_below (g := aj) (o := .cells #[.int .u32 t174, .int .i64 t175] 24 (0, 0)) (by (with_reducible repeat (first | refine blk_drewN ?_ _ | refine blk_drew ?_ | refine blk_alloc ?_ _)); refine blk_far ?_ ah.out _; (with_reducible repeat (first | refine blk_drewN ?_ _ | refine blk_drew ?_ | refine blk_alloc ?_ _)); refine blk_far ?_ ah.out _; (with_reducible repeat (first | refine blk_drewN ?_ _ | refine blk_drew ?_ | refine blk_alloc ?_ _)); exact ab.out) hb); replace af := Aside0.mk (blk_below (g := ad) (o := .cells #[.int .u32 t179, .int .i64 t180] 24 (0, 0)) (by (with_reducible repeat (first | refine blk_drewN ?_ _ | refine blk_drew ?_ | refine blk_alloc ?_ _)); refine blk_put (cs := #[.int .u32 t179, .int .i64 0]) ?_ 1 _ rfl; (with_reducible repeat (first | refine blk_drewN ?_ _ | refine blk_drew ?_ | refine blk_alloc ?_ _)); refine blk_put (cs := #[.int .u32 0, .int .i64 0]) ?_ 0 _ rfl; (with_reducible repeat (first | refine blk_drewN ?_ _ | refine blk_drew ?_ | refine blk_alloc ?_ _)); exact af.out) hb); replace HB := Aside0.mk (below_step (by repeat (first | (with_reducible first | exact HB.out | apply below_alloc | apply pw_below_drewN | apply below_drew1 | refine below_set ?_ ae.out | refine below_set ?_ ai.out | refine below_set ?_ an.out) | exact HB.out)) hb); (try clear hb); (try clear ao); (try clear hk); (try clear hi); have hcz54_0 : w53.cell? ⟨ad, 0, none⟩ = some (.int .u32 t179) := (blk_cell af.out 0).trans rfl; have hcz54_1 : w53.cell? ⟨ad, 1, none⟩ = some (.int .i64 t180) := (blk_cell af.out 1).trans rfl; have hfz54_0 := blk_frozen af.out 0; have hfz54_1 := blk_frozen af.out 1) | (go_at_call 7; (with_reducible refine (addr_May.calls t179 t180 false _ A36.out).mono ?_); rintro e w55 ⟨rfl, hb⟩; replace aa := Aside0.mk (ka3bb.q aa.out hb rfl); replace ab := Aside0.mk (ka3bb.q ab.out hb rfl); replace af := Aside0.mk (ka3bb.q af.out hb rfl); replace HB := Aside0.mk (below_step (by repeat (first | (with_reducible first | exact HB.out | apply below_alloc | apply pw_below_drewN | apply below_drew1 | refine below_set ?_ ae.out | refine below_set ?_ ai.out | refine below_set ?_ an.out) | exact HB.out)) hb); (try clear hb); (try clear ao); (try clear hk); (try clear hi)))
        go_ret
        exact ⟨by first | rfl | (simp [errW_none, errW_some] <;> rfl) | (simp [*, errW_none, errW_some] <;> rfl), by repeat (first | (with_reducible first | exact HB.out | apply below_alloc | apply pw_below_drewN | apply below_drew1 | refine below_set ?_ ae.out | refine below_set ?_ ai.out | refine below_set ?_ an.out) | exact HB.out)⟩
      ·rw [if_neg c35] at H
       have c35b0 : (t183.toList == a1.toList) = false := beq_eq_false_iff_ne.mpr c35
       have c35b1 : (t183.toList != a1.toList) = true := bne_iff_ne.mpr c35
       obtain rfl := Option.some.inj H
       go_wp2_with (first | ((with_reducible refine gate_callee (f := 5) rfl ?_); refine goesL_ (some 35) rfl rfl Tryd.func5 (by kernel_rfl) rfl #[.string a1] rfl (by (try simp only [List.map_toArray, List.map_cons, List.map_nil]); first | done | rfl) ?_; (with_reducible refine (addr_Parse.calls aq a1 t179 t180 t181 _ A32.out).mono ?_); rintro e w56 ⟨rfl, hb⟩; refine ⟨_, rfl, ?_⟩; replace aa := Aside0.mk (ka3bb.q aa.out hb rfl); replace ab := Aside0.mk (ka3bb.q ab.out hb rfl); replace HB := Aside0.mk (below_step (by repeat (first | (with_reducible first | exact HB.out | apply below_alloc | apply pw_below_drewN | apply below_drew1 | refine below_set ?_ ae.out | refine below_set ?_ ai.out) | exact HB.out)) hb); (try clear hb); (try clear ao); (try clear hk); (try clear hi)) | ((with_reducible refine gate_dst (N := 7) rfl ?_); refine box_event ?hg (N := 7) ?hd (cs := #[.int .u32 0, .int .i64 0]) (t := 24) ?hr ?_; (case hd => rfl); (case hg => rfl); (case hr => first | (go_simp; done) | (go_simp; rfl)); intro ad hg w57 hbox hb; have n0_ := Aside0.mk (ka3bb.q aa.out hb rfl); have n1_ := Aside0.mk (ka3bb.q ab.out hb rfl); have n2_ := Aside0.mk (below_step (by repeat (first | (with_reducible first | exact HB.out | apply below_alloc | apply pw_below_drewN | apply below_drew1 | refine below_set ?_ ae.out | refine below_set ?_ ai.out) | exact HB.out)) hb); have n3_ := Aside0.mk (hbox); have n4_ := Aside0.mk ((by rw [hg]; exact (below_size (by repeat (first | (with_reducible first | exact HB.out | apply below_alloc | apply pw_below_drewN | apply below_drew1 | refine below_set ?_ ae.out | refine below_set ?_ ai.out) | exact HB.out))) : w.heap.size ≤ ad)); have n5_ := Aside0.mk ((by rw [hg]; exact (below_size (by repeat (first | (with_reducible first | exact HB.out | apply below_alloc | apply pw_below_drewN | apply below_drew1 | refine below_set ?_ ae.out | refine below_set ?_ ai.out) | exact HB.out))) : w.heap.size ≤ ad)); have n6_ := Aside0.mk ((by rw [hg]; exact Nat.ne_of_lt (blk_lt (g := ac) (o := .cells #[.int .u32 al, .int .i64 am] 24 (0, 0)) (by (with_reducible repeat (first | refine blk_drewN ?_ _ | refine blk_drew ?_ | refine blk_alloc ?_ _)); exact aa.out)) : ac ≠ ad)); have n7_ := Aside0.mk ((by rw [hg]; exact Nat.ne_of_gt (blk_lt (g := ac) (o := .cells #[.int .u32 al, .int .i64 am] 24 (0, 0)) (by (with_reducible repeat (first | refine blk_drewN ?_ _ | refine blk_drew ?_ | refine blk_alloc ?_ _)); exact aa.out)) : ad ≠ ac)); have n8_ := Aside0.mk ((by rw [hg]; exact Nat.ne_of_lt (blk_lt (g := aj) (o := .cells #[.int .u32 t174, .int .i64 t175] 24 (0, 0)) (by (with_reducible repeat (first | refine blk_drewN ?_ _ | refine blk_drew ?_ | refine blk_alloc ?_ _)); exact ab.out)) : aj ≠ ad)); have n9_ := Aside0.mk ((by rw [hg]; exact Nat.ne_of_gt (blk_lt (g := aj) (o := .cells #[.int .u32 t174, .int .i64 t175] 24 (0, 0)) (by (with_reducible repeat (first | refine blk_drewN ?_ _ | refine blk_drew ?_ | refine blk_alloc ?_ _)); exact ab.out)) : ad ≠ aj)); clear aa; clear ab; clear HB; have aa := n0_; have ab := n1_; have HB := n2_; have af := n3_; have GW182 := n4_; have an := n5_; have ag := n6_; have NB182_171 := n7_; have ah := n8_; have NB182_177 := n9_; clear n0_ n1_ n2_ n3_ n4_ n5_ n6_ n7_ n8_ n9_; clear hb hbox hg; have hnb58 := NB182_171.out; have hnc58 := ag.out; have hnb59 := NB182_177.out; have hnc59 := ah.out; have hcz60_0 : w57.cell? ⟨ad, 0, none⟩ = some (.int .u32 0) := (blk_cell af.out 0).trans rfl; have hcz60_1 : w57.cell? ⟨ad, 1, none⟩ = some (.int .i64 0) := (blk_cell af.out 1).trans rfl; have hfz60_0 := blk_frozen af.out 0; have hfz60_1 := blk_frozen af.out 1) | (go_at_call 6; (with_reducible refine (addr_Text.calls aq t179 t180 t183 _ A34.out).mono ?_); rintro e w61 ⟨rfl, hb⟩; replace aa := Aside0.mk (blk_below (g := ac) (o := .cells #[.int .u32 al, .int .i64 am] 24 (0, 0)) (by (with_reducible repeat (first | refine blk_drewN ?_ _ | refine blk_drew ?_ | refine blk_alloc ?_ _)); refine blk_far ?_ ag.out _; (with_reducible repeat (first | refine blk_drewN ?_ _ | refine blk_drew ?_ | refine blk_alloc ?_ _)); refine blk_far ?_ ag.out _; (with_reducible repeat (first | refine blk_drewN ?_ _ | refine blk_drew ?_ | refine blk_alloc ?_ _)); exact aa.out) hb); replace ab := Aside0.mk (blk_below (g := aj) (o := .cells #[.int .u32 t174, .int .i64 t175] 24 (0, 0)) (by (with_reducible repeat (first | refine blk_drewN ?_ _ | refine blk_drew ?_ | refine blk_alloc ?_ _)); refine blk_far ?_ ah.out _; (with_reducible repeat (first | refine blk_drewN ?_ _ | refine blk_drew ?_ | refine blk_alloc ?_ _)); refine blk_far ?_ ah.out _; (with_reducible repeat (first | refine blk_drewN ?_ _ | refine blk_drew ?_ | refine blk_alloc ?_ _)); exact ab.out) hb); replace af := Aside0.mk (blk_below (g := ad) (o := .cells #[.int .u32 t179, .int .i64 t180] 24 (0, 0)) (by (with_reducible repeat (first | refine blk_drewN ?_ _ | refine blk_drew ?_ | refine blk_alloc ?_ _)); refine blk_put (cs := #[.int .u32 t179, .int .i64 0]) ?_ 1 _ rfl; (with_reducible repeat (first | refine blk_drewN ?_ _ | refine blk_drew ?_ | refine blk_alloc ?_ _)); refine blk_put (cs := #[.int .u32 0, .int .i64 0]) ?_ 0 _ rfl; (with_reducible repeat (first | refine blk_drewN ?_ _ | refine blk_drew ?_ | refine blk_alloc ?_ _)); exact af.out) hb); replace HB := Aside0.mk (below_step (by repeat (first | (with_reducible first | exact HB.out | apply below_alloc | apply pw_below_drewN | apply below_drew1 | refine below_set ?_ ae.out | refine below_set ?_ ai.out | refine below_set ?_ an.out) | exact HB.out)) hb); (try clear hb); (try clear ao); (try clear hk); (try clear hi)))
       go_ret
       exact ⟨by first | rfl | (simp [errW_none, errW_some] <;> rfl) | (simp [*, errW_none, errW_some] <;> rfl), by repeat (first | (with_reducible first | exact HB.out | apply below_alloc | apply pw_below_drewN | apply below_drew1 | refine below_set ?_ ae.out | refine below_set ?_ ai.out | refine below_set ?_ an.out) | exact HB.out)⟩
     ·rw [if_neg c33] at H
      have c33b0 : (t181 == 0) = false := beq_eq_false_iff_ne.mpr c33
      have c33b1 : (t181 != 0) = true := bne_iff_ne.mpr c33
      replace H := Option.bind_eq_some_iff.mp H
      obtain ⟨t186, A620, H⟩ := H
      replace H : (some t186) = some r := H
      have A62 := Aside0.mk A620
      clear A620
      obtain rfl := Option.some.inj H
      go_wp2_with (first | ((with_reducible refine gate_callee (f := 5) rfl ?_); refine goesL_ (some 35) rfl rfl Tryd.func5 (by kernel_rfl) rfl #[.string a1] rfl (by (try simp only [List.map_toArray, List.map_cons, List.map_nil]); first | done | rfl) ?_; (with_reducible refine (addr_Parse.calls aq a1 t179 t180 t181 _ A32.out).mono ?_); rintro e w63 ⟨rfl, hb⟩; refine ⟨_, rfl, ?_⟩; replace aa := Aside0.mk (ka3bb.q aa.out hb rfl); replace ab := Aside0.mk (ka3bb.q ab.out hb rfl); replace HB := Aside0.mk (below_step (by repeat (first | (with_reducible first | exact HB.out | apply below_alloc | apply pw_below_drewN | apply below_drew1 | refine below_set ?_ ae.out | refine below_set ?_ ai.out) | exact HB.out)) hb); (try clear hb); (try clear ao); (try clear hk); (try clear hi)) | ((with_reducible refine gate_dst (N := 7) rfl ?_); refine box_event ?hg (N := 7) ?hd (cs := #[.int .u32 0, .int .i64 0]) (t := 24) ?hr ?_; (case hd => rfl); (case hg => rfl); (case hr => first | (go_simp; done) | (go_simp; rfl)); intro ad hg w64 hbox hb; have n0_ := Aside0.mk (ka3bb.q aa.out hb rfl); have n1_ := Aside0.mk (ka3bb.q ab.out hb rfl); have n2_ := Aside0.mk (below_step (by repeat (first | (with_reducible first | exact HB.out | apply below_alloc | apply pw_below_drewN | apply below_drew1 | refine below_set ?_ ae.out | refine below_set ?_ ai.out) | exact HB.out)) hb); have n3_ := Aside0.mk (hbox); have n4_ := Aside0.mk ((by rw [hg]; exact (below_size (by repeat (first | (with_reducible first | exact HB.out | apply below_alloc | apply pw_below_drewN | apply below_drew1 | refine below_set ?_ ae.out | refine below_set ?_ ai.out) | exact HB.out))) : w.heap.size ≤ ad)); have n5_ := Aside0.mk ((by rw [hg]; exact (below_size (by repeat (first | (with_reducible first | exact HB.out | apply below_alloc | apply pw_below_drewN | apply below_drew1 | refine below_set ?_ ae.out | refine below_set ?_ ai.out) | exact HB.out))) : w.heap.size ≤ ad)); have n6_ := Aside0.mk ((by rw [hg]; exact Nat.ne_of_lt (blk_lt (g := ac) (o := .cells #[.int .u32 al, .int .i64 am] 24 (0, 0)) (by (with_reducible repeat (first | refine blk_drewN ?_ _ | refine blk_drew ?_ | refine blk_alloc ?_ _)); exact aa.out)) : ac ≠ ad)); have n7_ := Aside0.mk ((by rw [hg]; exact Nat.ne_of_gt (blk_lt (g := ac) (o := .cells #[.int .u32 al, .int .i64 am] 24 (0, 0)) (by (with_reducible repeat (first | refine blk_drewN ?_ _ | refine blk_drew ?_ | refine blk_alloc ?_ _)); exact aa.out)) : ad ≠ ac)); have n8_ := Aside0.mk ((by rw [hg]; exact Nat.ne_of_lt (blk_lt (g := aj) (o := .cells #[.int .u32 t174, .int .i64 t175] 24 (0, 0)) (by (with_reducible repeat (first | refine blk_drewN ?_ _ | refine blk_drew ?_ | refine blk_alloc ?_ _)); exact ab.out)) : aj ≠ ad)); have n9_ := Aside0.mk ((by rw [hg]; exact Nat.ne_of_gt (blk_lt (g := aj) (o := .cells #[.int .u32 t174, .int .i64 t175] 24 (0, 0)) (by (with_reducible repeat (first | refine blk_drewN ?_ _ | refine blk_drew ?_ | refine blk_alloc ?_ _)); exact ab.out)) : ad ≠ aj)); clear aa; clear ab; clear HB; have aa := n0_; have ab := n1_; have HB := n2_; have af := n3_; have GW182 := n4_; have an := n5_; have ag := n6_; have NB182_171 := n7_; have ah := n8_; have NB182_177 := n9_; clear n0_ n1_ n2_ n3_ n4_ n5_ n6_ n7_ n8_ n9_; clear hb hbox hg; have hnb65 := NB182_171.out; have hnc65 := ag.out; have hnb66 := NB182_177.out; have hnc66 := ah.out; have hcz67_0 : w64.cell? ⟨ad, 0, none⟩ = some (.int .u32 0) := (blk_cell af.out 0).trans rfl; have hcz67_1 : w64.cell? ⟨ad, 1, none⟩ = some (.int .i64 0) := (blk_cell af.out 1).trans rfl; have hfz67_0 := blk_frozen af.out 0; have hfz67_1 := blk_frozen af.out 1) | (go_at_call 4; (with_reducible refine (whirligiglaw01_lives.calls aq  t186 _ A62.out).mono ?_); rintro e w68 ⟨rfl, hb⟩; replace aa := Aside0.mk (blk_below (g := ac) (o := .cells #[.int .u32 al, .int .i64 am] 24 (0, 0)) (by (with_reducible repeat (first | refine blk_drewN ?_ _ | refine blk_drew ?_ | refine blk_alloc ?_ _)); refine blk_far ?_ ag.out _; (with_reducible repeat (first | refine blk_drewN ?_ _ | refine blk_drew ?_ | refine blk_alloc ?_ _)); refine blk_far ?_ ag.out _; (with_reducible repeat (first | refine blk_drewN ?_ _ | refine blk_drew ?_ | refine blk_alloc ?_ _)); exact aa.out) hb); replace ab := Aside0.mk (blk_below (g := aj) (o := .cells #[.int .u32 t174, .int .i64 t175] 24 (0, 0)) (by (with_reducible repeat (first | refine blk_drewN ?_ _ | refine blk_drew ?_ | refine blk_alloc ?_ _)); refine blk_far ?_ ah.out _; (with_reducible repeat (first | refine blk_drewN ?_ _ | refine blk_drew ?_ | refine blk_alloc ?_ _)); refine blk_far ?_ ah.out _; (with_reducible repeat (first | refine blk_drewN ?_ _ | refine blk_drew ?_ | refine blk_alloc ?_ _)); exact ab.out) hb); replace af := Aside0.mk (blk_below (g := ad) (o := .cells #[.int .u32 t179, .int .i64 t180] 24 (0, 0)) (by (with_reducible repeat (first | refine blk_drewN ?_ _ | refine blk_drew ?_ | refine blk_alloc ?_ _)); refine blk_put (cs := #[.int .u32 t179, .int .i64 0]) ?_ 1 _ rfl; (with_reducible repeat (first | refine blk_drewN ?_ _ | refine blk_drew ?_ | refine blk_alloc ?_ _)); refine blk_put (cs := #[.int .u32 0, .int .i64 0]) ?_ 0 _ rfl; (with_reducible repeat (first | refine blk_drewN ?_ _ | refine blk_drew ?_ | refine blk_alloc ?_ _)); exact af.out) hb); replace HB := Aside0.mk (below_step (by repeat (first | (with_reducible first | exact HB.out | apply below_alloc | apply pw_below_drewN | apply below_drew1 | refine below_set ?_ ae.out | refine below_set ?_ ai.out | refine below_set ?_ an.out) | exact HB.out)) hb); (try clear hb); (try clear ao); (try clear hk); (try clear hi)))
      go_ret
      exact ⟨by first | rfl | (simp [errW_none, errW_some] <;> rfl) | (simp [*, errW_none, errW_some] <;> rfl), by repeat (first | (with_reducible first | exact HB.out | apply below_alloc | apply pw_below_drewN | apply below_drew1 | refine below_set ?_ ae.out | refine below_set ?_ ai.out | refine below_set ?_ an.out) | exact HB.out)⟩

end Go.Proofs.YtckffheolnmcnabDoor.P

end
section
set_option linter.unusedVariables false
set_option linter.unusedSimpArgs false
namespace Go.Proofs.YtckffheolnmcnabDoor
open Go.ChangeShapes Go.WideShapes Go.Proofs.YtckffheolnmcnabDoorW.PrintWords Go.Proofs.YtckffheolnmcnabDoorW.PrintLast Go.Proofs.YtckffheolnmcnabDoorW.PrintMore

/-- the ints of a kind -/
def okI (k : IntKind) (n : Int) : Prop := (Lit.int k n).wf = true
def okS (s : ByteArray) : Prop := s.size ≤ 140737488351232
theorem okI_u32 {n : Int} (h : okI .u32 n) : 0 ≤ n ∧ n ≤ 4294967295 := by
  unfold okI Lit.wf at h; simp [IntKind.min, IntKind.max, IntKind.bits, IntKind.signed] at h; omega
/-- A reading of a type. -/
structure RV (P : Program) (t : TypeId) (α : Type) (d : Kd α) where
  ok : α → Prop
  sz : P.cellsOf t = d.sz
  opens : ∀ {H : Type} {enc : TypeId × Value → H} {w : World} {base : Nat} {spare : Nat → Bool} {held : Bool} {fuel : Nat} {cs : List Value} {x : DataW H × List MemPlace},
    DataW.trod enc P w base spare held fuel t cs = some x → (x.1.weights P t).all (· ≤ reachBytes) = true → ∃ a, d.K w a cs ∧ ok a
/-- A reading of a stretch of fields. -/
structure RF (P : Program) (fs : List Field) (off : Nat) (α : Type) where
  K : World → α → List Value → Prop
  ok : α → Prop
  opens : ∀ {H : Type} {enc : TypeId × Value → H} {w : World} {base : Nat} {spare : Nat → Bool} {held : Bool} {fuel : Nat} {cs : List Value} {ds : List (DataW H × List MemPlace)}, off ≤ cs.length →
    (∀ f, f ∈ fs → f.offset + P.cellsOf f.type ≤ cs.length) → (∀ (i : Nat) (f : Field), fs[i]? = some f → ∃ y, ds[i]? = some y ∧ DataW.trod enc P w base spare held fuel f.type ((cs.drop f.offset).take (P.cellsOf f.type)) = some y) →
    (DataW.weightsEach P (fs.map (·.type)) (ds.map (·.1))).all (· ≤ reachBytes) = true →
    (fs = [] → cs.length = off) → (∀ f, fs.getLast? = some f → f.offset + P.cellsOf f.type = cs.length) → ∃ a, K w a (cs.drop off) ∧ ok a

section
variable {P : Program} {t e : TypeId} {α β : Type} {d : Kd α}
def rInt (k : IntKind) (ht : P.underlying t = some (.int k)) (hc : P.cellsOf t = 1) : RV P t Int (Kd.int k) where
  ok := okI k
  sz := hc
  opens := fun h _ => by obtain ⟨n, h1, _, h3⟩ := DataW.trod_int ht h; exact ⟨n, h1, h3⟩
def fNil (off : Nat) : RF P [] off Unit where
  K := fun _ _ cs => cs = []
  ok := fun _ => True
  opens := fun _ _ _ _ h0 _ => ⟨(), by have := h0 rfl; simp [← this], trivial⟩
def fCons (f : Field) {fs : List Field} {off n : Nat} (ho : f.offset = off) (hn : P.cellsOf f.type = n) {d : Kd α} (V : RV P f.type α d) (F : RF P fs (off + n) β) : RF P (f :: fs) off (α × β) where
  K := fun w x cs => ∃ c c', cs = c ++ c' ∧ d.K w x.1 c ∧ F.K w x.2 c'
  ok := fun x => V.ok x.1 ∧ F.ok x.2
  opens := fun {H enc w base spare held fuel cs ds} hoff hle hy hw h0 hlast => by
    obtain ⟨y, hy1, hy0⟩ := hy 0 f rfl
    obtain ⟨ds, rfl⟩ : ∃ l, ds = y :: l := by
      cases ds with
      | nil => simp at hy1
      | cons z l => simp at hy1; subst hy1; exact ⟨l, rfl⟩
    rw [List.map_cons, List.map_cons, DataW.weightsEach, List.all_append, Bool.and_eq_true] at hw
    obtain ⟨a, ha, hka⟩ := V.opens hy0 hw.1
    have hl0 := hle f (by simp)
    rw [ho, hn] at hl0
    obtain ⟨b, hb, hkb⟩ := F.opens (cs := cs) (ds := ds) hl0 (fun g hg => hle g (by simp [hg])) (fun i g hg => hy (i + 1) g hg) hw.2 (fun h => by subst h; have := hlast f (by simp); rw [ho, hn] at this; exact this.symm)
      (fun g hg => hlast g (by cases fs with | nil => simp at hg | cons z zs => rw [List.getLast?_cons_cons]; exact hg))
    refine ⟨(a, b), ⟨(cs.drop off).take n, cs.drop (off + n), ?_, ?_, hb⟩, hka, hkb⟩
    · rw [← List.drop_drop, List.take_append_drop]
    · rw [ho, hn] at ha; exact ha
/-- the struct's cells end with its last field's -/
def fitsB (P : Program) (t : TypeId) (fs : List Field) : Bool := fs.all (fun f => decide (f.offset + P.cellsOf f.type ≤ P.cellsOf t)) && (match fs.getLast? with | some f => f.offset + P.cellsOf f.type == P.cellsOf t | none => P.cellsOf t == 0)
def rStruct {fs : Array Field} (ht : P.underlying t = some (.struct fs)) (hf : fitsB P t fs.toList = true) {d : Kd β} (hc : P.cellsOf t = d.sz) (F : RF P fs.toList 0 α) (f : α → β) (hK : ∀ w x cs, F.K w x cs → d.K w (f x) cs) (ok : β → Prop) (hok : ∀ x, F.ok x → ok (f x)) : RV P t β d where
  ok := ok
  sz := hc
  opens := fun {H enc w base spare held fuel cs x} h hw => by
    obtain ⟨xs, n, _, rfl, hl, hxl, hx⟩ := DataW.trod_struct ht h
    unfold fitsB at hf
    rw [Bool.and_eq_true] at hf
    obtain ⟨f1, f2⟩ := hf
    simp only [DataW.weights, ht] at hw
    obtain ⟨a, ha, hka⟩ := F.opens (enc := enc) (w := w) (base := base) (spare := spare) (held := held) (fuel := n) (cs := cs) (ds := xs) (Nat.zero_le _)
      (fun f hf => by rw [hl]; exact of_decide_eq_true (List.all_eq_true.1 f1 f hf))
      (fun i f hi => by
        have hi' : fs[i]? = some f := by rw [← Array.getElem?_toList]; exact hi
        have hlt : i < fs.size := by
          have := (List.getElem?_eq_some_iff.1 hi).1
          simpa using this
        have z := hx i f hi'
        rw [z]
        exact ⟨_, List.getElem?_eq_getElem (by omega), List.getElem?_eq_getElem (by omega)⟩)
      hw
      (fun h0 => by rw [h0] at f2; simp at f2; rw [hl]; exact f2)
      (fun f hf => by rw [hf] at f2; simp at f2; rw [hl]; exact f2)
    exact ⟨f a, hK _ _ _ (by simpa using ha), hok a hka⟩
end
end Go.Proofs.YtckffheolnmcnabDoor

end
section
namespace Go.Proofs.YtckffheolnmcnabDoor.P
open Go.Proofs.YtckffheolnmcnabDoorW.PrintWords Go.Proofs.YtckffheolnmcnabDoorW.PrintLast Go.Proofs.YtckffheolnmcnabDoorW.PrintMore
set_option linter.unusedVariables false
def r22 : RV Tryd.prog 22 Int (Kd.int .u32) := rInt .u32 Tryd.underlying22 (by kernel_rfl)
def r3 : RV Tryd.prog 3 Int (Kd.int .i64) := rInt .i64 Tryd.underlying3 (by kernel_rfl)
def ok24 (x : S24) : Prop := (okI .u32) x.f0 ∧ (okI .i64) x.f1
def r24 : RV Tryd.prog 24 S24 k24 := rStruct Tryd.underlying24 (by kernel_rfl) (by kernel_rfl) (fCons (n := 1) _ rfl (by kernel_rfl) r22 (fCons (n := 1) _ rfl (by kernel_rfl) r3 (fNil _))) (fun x => ⟨x.1, x.2.1⟩) (by rintro w x cs ⟨c0, _, rfl, h0, c1, _, rfl, h1, rfl⟩; exact ⟨c0, _, rfl, h0, (by rw [List.append_nil]; exact h1)⟩) ok24 (fun x h => ⟨h.1, h.2.1⟩)
end Go.Proofs.YtckffheolnmcnabDoor.P

end
section
namespace Go.Proofs.YtckffheolnmcnabDoor.P
open Go.RowKit Go.Proofs.YtckffheolnmcnabDoorW.PrintWords Go.Proofs.YtckffheolnmcnabDoorW.PrintLast Go.Proofs.YtckffheolnmcnabDoorW.PrintMore
set_option linter.unusedVariables false
set_option linter.unusedSimpArgs false

def tx (l : List UInt8) : ByteArray := ⟨l.toArray⟩
theorem tx_app (l m : List UInt8) : tx l ++ tx m = tx (l ++ m) := app_list l m
theorem tx_size (l : List UInt8) : (tx l).size = l.length := size_list l
theorem dig_byte (n : Nat) (h : n < 10) : (48 + UInt8.ofNat n).toNat = 48 + n := by rw [UInt8.toNat_add]; simp; omega
def isD (c : UInt8) : Bool := decide (48 ≤ c.toNat) && decide (c.toNat ≤ 57)
theorem dig_isD (n : Nat) : ∀ c, c ∈ dig n → isD c = true := by
  induction n using Nat.strongRecOn with
  | _ n ih =>
    intro c hc
    by_cases h : n < 10
    · rw [dig_small n h] at hc; simp at hc; subst hc; unfold isD; rw [dig_byte n h]; simp; omega
    · rw [dig_big n h] at hc
      rcases List.mem_append.1 hc with hc | hc
      · exact ih (n / 10) (by omega) c hc
      · simp at hc; subst hc; unfold isD; rw [dig_byte _ (by omega)]; simp; omega
end Go.Proofs.YtckffheolnmcnabDoor.P

end
section
namespace Go.Proofs.YtckffheolnmcnabDoor.P
open Go.RowKit Go.Proofs.YtckffheolnmcnabDoorW.PrintWords Go.Proofs.YtckffheolnmcnabDoorW.PrintLast Go.Proofs.YtckffheolnmcnabDoorW.PrintMore
set_option linter.unusedVariables false
set_option linter.unusedSimpArgs false

theorem numF_snoc (lim : Int) : ∀ (l : List UInt8) (n : Int) (c : UInt8), numF lim n (l ++ [c]) = min (10 * numF lim n l + ((c.toNat : Int) - 48)) lim := by
  intro l
  induction l with
  | nil => intro n c; rfl
  | cons a l ih => intro n c; exact ih _ c
theorem numF_dig (lim : Int) (n : Nat) (h : (n : Int) ≤ lim) : numF lim 0 (dig n) = n := by
  induction n using Nat.strongRecOn with
  | _ n ih =>
    by_cases h1 : n < 10
    · rw [dig_small n h1]
      show min (10 * 0 + (((48 + UInt8.ofNat n).toNat : Int) - 48)) lim = n
      rw [dig_byte n h1]; omega
    · rw [dig_big n h1, numF_snoc, ih (n / 10) (by omega) (by omega), dig_byte _ (by omega)]; omega
theorem dig_len_ge (n : Nat) : 1 ≤ (dig n).length := by
  by_cases h : n < 10
  · rw [dig_small n h]; simp
  · rw [dig_big n h]; simp
theorem dig_head (n : Nat) (h : 0 < n) : (dig n).head? ≠ some 48 := by
  induction n using Nat.strongRecOn with
  | _ n ih =>
    by_cases h1 : n < 10
    · rw [dig_small n h1]
      intro e
      have e2 : (48 + UInt8.ofNat n : UInt8) = 48 := by simpa using e
      have := dig_byte n h1
      rw [e2] at this
      have : (48 : UInt8).toNat = 48 := rfl
      omega
    · have h2 := ih (n / 10) (by omega) (by omega)
      rw [dig_big n h1]
      have h3 := dig_len_ge (n / 10)
      cases hd : dig (n / 10) with
      | nil => rw [hd] at h3; simp at h3
      | cons a l => rw [hd] at h2; simpa using h2
theorem numL_dig (lim : Int) (n : Nat) (h : (n : Int) ≤ lim) : numL lim (dig n) = ((n : Int), true) := by
  unfold numL
  have h1 := dig_len_ge n
  rw [if_neg, if_pos, numF_dig lim n h]
  · rw [List.all_eq_true]; exact fun c hc => dig_isD n c hc
  · rintro (e | ⟨h2, h3⟩)
    · rw [e] at h1; simp at h1
    · by_cases h0 : n = 0
      · subst h0; rw [dig_small 0 (by omega)] at h2; simp at h2
      · exact dig_head n (by omega) h3
theorem numL_rng (lim : Int) (h0 : 0 ≤ lim) (l : List UInt8) : 0 ≤ (numL lim l).1 ∧ (numL lim l).1 ≤ lim := by
  unfold numL
  split
  · exact ⟨Int.le_refl _, h0⟩
  · split
    · rename_i h; exact numF_rng lim h0 l 0 (Int.le_refl _) h0 h
    · exact ⟨Int.le_refl _, h0⟩
theorem indexByte_app (u v : List UInt8) (c : UInt8) (h : ∀ x, x ∈ u → x ≠ c) : Lib.indexByte (u ++ c :: v) c = u.length := by
  induction u with
  | nil => simp [Lib.indexByte]
  | cons a u ih =>
    have ha := h a (by simp)
    have hi := ih (fun x hx => h x (by simp [hx]))
    simp only [List.cons_append, Lib.indexByte]
    rw [if_neg (by simpa using ha), hi, if_neg (by simp only [beq_iff_eq]; omega)]
    simp
theorem indexByte_lt (l : List UInt8) (c : UInt8) : Lib.indexByte l c < (l.length : Int) ∨ l = [] := by
  by_cases h : l = []
  · exact .inr h
  · refine .inl ?_
    rcases Int.lt_or_le (Lib.indexByte l c) 0 with h1 | h1
    · have : 0 < l.length := List.length_pos_iff.2 h; omega
    · obtain ⟨o, ho⟩ := Int.eq_ofNat_of_zero_le h1
      have h2 := (Lib.indexByte_some ho).1
      have := (List.getElem?_eq_some_iff.1 h2).1
      omega
end Go.Proofs.YtckffheolnmcnabDoor.P

end
section
namespace Go.Proofs.YtckffheolnmcnabDoor.P
open Go.RowKit Go.Proofs.YtckffheolnmcnabDoorW.PrintWords Go.Proofs.YtckffheolnmcnabDoorW.PrintLast Go.Proofs.YtckffheolnmcnabDoorW.PrintMore
set_option linter.unusedVariables false
set_option linter.unusedSimpArgs false

theorem idx_none (s : List UInt8) (c : UInt8) (h : ∀ x, x ∈ s → x ≠ c) : Lib.indexByte s c = -1 := by
  induction s with
  | nil => rfl
  | cons a s ih =>
    have ha := h a (by simp)
    have hi := ih (fun x hx => h x (by simp [hx]))
    simp only [Lib.indexByte]
    rw [if_neg (by simpa using ha), hi, if_pos (by decide)]
theorem cut_or (s : List UInt8) (c : UInt8) : (∀ x, x ∈ s → x ≠ c) ∨ ∃ u v, (∀ x, x ∈ u → x ≠ c) ∧ s = u ++ c :: v := by
  induction s with
  | nil => exact .inl fun x hx => by cases hx
  | cons a s ih =>
    by_cases ha : a = c
    · exact .inr ⟨[], s, fun x hx => (by cases hx), by rw [ha]; rfl⟩
    · rcases ih with h | ⟨u, v, h, e⟩
      · refine .inl fun x hx => ?_
        rcases List.mem_cons.1 hx with rfl | hx
        · exact ha
        · exact h x hx
      · refine .inr ⟨a :: u, v, fun x hx => ?_, by rw [e]; rfl⟩
        rcases List.mem_cons.1 hx with rfl | hx
        · exact ha
        · exact h x hx
theorem sp_none (s : List UInt8) (c : UInt8) (h : ∀ x, x ∈ s → x ≠ c) : Lib.split s [c] = [s] := by
  have e : Lib.index s [c] = -1 := by rw [Lib.index_one, idx_none s c h]
  unfold Lib.split
  rw [Lib.count_miss e]; rfl
theorem sp_app (u v : List UInt8) (c : UInt8) (h : ∀ x, x ∈ u → x ≠ c) : Lib.split (u ++ c :: v) [c] = u :: Lib.split v [c] := by
  have e : Lib.index (u ++ c :: v) [c] = (u.length : Int) := by rw [Lib.index_one, indexByte_app u v c h]
  have e2 : (u ++ c :: v).drop (u.length + 1) = v := by
    rw [List.drop_append, List.drop_eq_nil_of_le (by omega), List.nil_append, show u.length + 1 - u.length = 1 by omega]; rfl
  unfold Lib.split
  rw [Lib.count_hit (by simp) e]
  show Lib.splitK [c] 0 (1 + Lib.count ((u ++ c :: v).drop (u.length + 1)) [c]) (u ++ c :: v) = _
  rw [e2, Nat.add_comm, Lib.splitK, if_neg (by rw [e]; simp only [beq_iff_eq]; omega), e]
  simp only [Int.toNat_natCast, Nat.add_zero, List.take_left]
  show u :: Lib.splitK [c] 0 _ ((u ++ c :: v).drop (u.length + 1)) = _
  rw [e2]
theorem sp_cons (s p : List UInt8) (ps : List (List UInt8)) (c : UInt8) (h : Lib.split s [c] = p :: ps) : (ps = [] ∧ s = p) ∨ ∃ v, s = p ++ c :: v ∧ Lib.split v [c] = ps := by
  rcases cut_or s c with h1 | ⟨u, v, h1, rfl⟩
  · rw [sp_none s c h1] at h
    injection h with h2 h3
    exact .inl ⟨h3.symm, h2⟩
  · rw [sp_app u v c h1] at h
    injection h with h2 h3
    exact .inr ⟨v, by rw [h2], h3⟩
theorem sp_ne (s : List UInt8) (c : UInt8) : Lib.split s [c] ≠ [] := by
  rcases cut_or s c with h1 | ⟨u, v, h1, rfl⟩
  · rw [sp_none s c h1]; simp
  · rw [sp_app u v c h1]; simp
theorem sp_four (s p0 p1 p2 p3 : List UInt8) (c : UInt8) (h : Lib.split s [c] = [p0, p1, p2, p3]) : s = p0 ++ c :: (p1 ++ c :: (p2 ++ c :: p3)) := by
  rcases sp_cons s p0 [p1, p2, p3] c h with ⟨h, _⟩ | ⟨v, e0, h⟩
  · cases h
  rcases sp_cons v p1 [p2, p3] c h with ⟨h, _⟩ | ⟨v1, e1, h⟩
  · cases h
  rcases sp_cons v1 p2 [p3] c h with ⟨h, _⟩ | ⟨v2, e2, h⟩
  · cases h
  rcases sp_cons v2 p3 [] c h with ⟨_, h⟩ | ⟨v3, e3, h⟩
  · rw [e0, e1, e2, h]
  · exact absurd h (sp_ne _ _)
/-- a number's text -/
def isN (l : List UInt8) : Bool := (numL 1000 l).2
def vaN (l : List UInt8) : Int := (numL 1000 l).1
theorem isN_iff (l : List UInt8) : isN l = true ↔ l ≠ [] ∧ ¬ (1 < l.length ∧ l.head? = some 48) ∧ l.all isDg = true := by
  unfold isN numL
  by_cases h : l = [] ∨ (1 < l.length ∧ l.head? = some 48)
  · rw [if_pos h]
    constructor
    · intro e; cases e
    · rintro ⟨h1, h2, _⟩
      rcases h with h | h
      · exact absurd h h1
      · exact absurd h h2
  · rw [if_neg h]
    by_cases h2 : l.all isDg = true
    · rw [if_pos h2]; exact ⟨fun _ => ⟨fun e => h (.inl e), fun e => h (.inr e), h2⟩, fun _ => rfl⟩
    · rw [if_neg h2]; exact ⟨fun e => (by cases e), fun e => absurd e.2.2 h2⟩
theorem isN_dg {l : List UInt8} (h : isN l = true) : ∀ x, x ∈ l → isDg x = true := fun x hx => List.all_eq_true.1 ((isN_iff l).1 h).2.2 x hx
theorem isN_no {l : List UInt8} (h : isN l = true) (c : UInt8) (hc : isDg c = false) : ∀ x, x ∈ l → x ≠ c := fun x hx e => by have := isN_dg h x hx; rw [e, hc] at this; cases this
theorem numL_eq (l : List UInt8) : numL 1000 l = (vaN l, isN l) := rfl
theorem vaN_rng (l : List UInt8) : 0 ≤ vaN l ∧ vaN l ≤ 1000 := numL_rng 1000 (by decide) l
/-- five numbers between points and a stroke -/
def Fm (s : List UInt8) (n : Int × Int × Int × Int × Int) : Prop := ∃ d0 d1 d2 d3 d4, s = d0 ++ 46 :: (d1 ++ 46 :: (d2 ++ 46 :: (d3 ++ 47 :: d4))) ∧ isN d0 = true ∧ isN d1 = true ∧ isN d2 = true ∧ isN d3 = true ∧ isN d4 = true ∧ n = (vaN d0, vaN d1, vaN d2, vaN d3, vaN d4)
/-- what the program reads -/
def prs (s : List UInt8) : Option (Int × Int × Int × Int × Int) :=
  if 0 ≤ Lib.indexByte s 47 then
    match Lib.split (s.take (Lib.indexByte s 47).toNat) [46] with
    | [p0, p1, p2, p3] => if isN p0 = true ∧ isN p1 = true ∧ isN p2 = true ∧ isN p3 = true ∧ isN (s.drop ((Lib.indexByte s 47).toNat + 1)) = true then some (vaN p0, vaN p1, vaN p2, vaN p3, vaN (s.drop ((Lib.indexByte s 47).toNat + 1))) else none
    | _ => none
  else none
theorem idx_at (s : List UInt8) (c : UInt8) (h : 0 ≤ Lib.indexByte s c) : s = s.take (Lib.indexByte s c).toNat ++ c :: s.drop ((Lib.indexByte s c).toNat + 1) := by
  obtain ⟨o, ho⟩ := Int.eq_ofNat_of_zero_le h
  have h2 := (Lib.indexByte_some ho).1
  rw [ho, Int.toNat_natCast]
  obtain ⟨h3, h4⟩ := List.getElem?_eq_some_iff.1 h2
  have h5 : s.drop o = c :: s.drop (o + 1) := by rw [← h4]; exact List.drop_eq_getElem_cons h3
  rw [← h5, List.take_append_drop]
theorem prs_sound (s : List UInt8) (n : Int × Int × Int × Int × Int) (h : prs s = some n) : Fm s n := by
  unfold prs at h
  split at h
  · rename_i hi
    have he := idx_at s 47 hi
    generalize s.take (Lib.indexByte s 47).toNat = a at *
    generalize s.drop ((Lib.indexByte s 47).toNat + 1) = b at *
    split at h
    · rename_i p0 p1 p2 p3 hp
      split at h
      · rename_i hh
        have ha := sp_four _ _ _ _ _ _ hp
        refine ⟨p0, p1, p2, p3, b, ?_, hh.1, hh.2.1, hh.2.2.1, hh.2.2.2.1, hh.2.2.2.2, (Option.some.inj h).symm⟩
        rw [he, ha]; simp
      · cases h
    · cases h
  · cases h
theorem prs_full (s : List UInt8) (n : Int × Int × Int × Int × Int) (h : Fm s n) : prs s = some n := by
  obtain ⟨d0, d1, d2, d3, d4, rfl, h0, h1, h2, h3, h4, rfl⟩ := h
  have e : d0 ++ 46 :: (d1 ++ 46 :: (d2 ++ 46 :: (d3 ++ 47 :: d4))) = (d0 ++ 46 :: (d1 ++ 46 :: (d2 ++ 46 :: d3))) ++ 47 :: d4 := by simp
  have hno : ∀ x, x ∈ (d0 ++ 46 :: (d1 ++ 46 :: (d2 ++ 46 :: d3))) → x ≠ 47 := by
    intro x hx
    simp only [List.mem_append, List.mem_cons] at hx
    rcases hx with hx | rfl | hx | rfl | hx | rfl | hx
    · exact isN_no h0 47 (by decide) x hx
    · decide
    · exact isN_no h1 47 (by decide) x hx
    · decide
    · exact isN_no h2 47 (by decide) x hx
    · decide
    · exact isN_no h3 47 (by decide) x hx
  have hi := indexByte_app _ d4 47 hno
  rw [← e] at hi
  unfold prs
  rw [hi, if_pos (by omega), Int.toNat_natCast]
  have t1 : (d0 ++ 46 :: (d1 ++ 46 :: (d2 ++ 46 :: (d3 ++ 47 :: d4)))).take (d0 ++ 46 :: (d1 ++ 46 :: (d2 ++ 46 :: d3))).length = d0 ++ 46 :: (d1 ++ 46 :: (d2 ++ 46 :: d3)) := by
    rw [e, List.take_left]
  have t2 : (d0 ++ 46 :: (d1 ++ 46 :: (d2 ++ 46 :: (d3 ++ 47 :: d4)))).drop ((d0 ++ 46 :: (d1 ++ 46 :: (d2 ++ 46 :: d3))).length + 1) = d4 := by
    rw [e]
    generalize (d0 ++ 46 :: (d1 ++ 46 :: (d2 ++ 46 :: d3))) = u
    rw [List.drop_append, List.drop_eq_nil_of_le (by omega), List.nil_append, show u.length + 1 - u.length = 1 by omega]; rfl
  rw [t1, t2, sp_app _ _ _ (isN_no h0 46 (by decide)), sp_app _ _ _ (isN_no h1 46 (by decide)), sp_app _ _ _ (isN_no h2 46 (by decide)), sp_none _ _ (isN_no h3 46 (by decide))]
  exact if_pos ⟨h0, h1, h2, h3, h4⟩
/-- a number's text is its digits -/
theorem numF_mono (lim : Int) : ∀ (l : List UInt8) (n : Int), 0 ≤ n → n ≤ lim → l.all isDg = true → numF lim n l < lim → numF lim n l = l.foldl (fun (n : Int) c => 10 * n + ((c.toNat : Int) - 48)) n ∧ n ≤ numF lim n l := by
  intro l
  induction l with
  | nil => intro n h0 h1 _ h; exact ⟨rfl, Int.le_refl _⟩
  | cons c l ih =>
    intro n h0 h1 h2 h
    rw [List.all_cons, Bool.and_eq_true] at h2
    have hc := h2.1
    unfold isDg at hc
    simp at hc
    obtain ⟨e1, e2⟩ := ih (min (10 * n + ((c.toNat : Int) - 48)) lim) (by omega) (by omega) h2.2 h
    have e3 : min (10 * n + ((c.toNat : Int) - 48)) lim = 10 * n + ((c.toNat : Int) - 48) := by
      have : numF lim n (c :: l) = numF lim (min (10 * n + ((c.toNat : Int) - 48)) lim) l := rfl
      rw [this] at h
      omega
    rw [e3] at e1 e2
    refine ⟨?_, ?_⟩
    · show numF lim (min (10 * n + ((c.toNat : Int) - 48)) lim) l = _
      rw [e3, e1]; rfl
    · show n ≤ numF lim (min (10 * n + ((c.toNat : Int) - 48)) lim) l
      rw [e3]; omega
theorem dig_val_ : ∀ (m l : List UInt8), m.reverse = l → l ≠ [] → l.all isDg = true → l.head? ≠ some 48 → dig (l.foldl (fun (n : Nat) c => 10 * n + (c.toNat - 48)) 0) = l ∧ 0 < (l.foldl (fun (n : Nat) c => 10 * n + (c.toNat - 48)) 0) := by
  intro m
  induction m with
  | nil => intro l hl h; exact absurd hl.symm h
  | cons c m ih =>
    intro l hml _ h2 h3
    have ih := ih m.reverse rfl
    rw [List.reverse_cons] at hml
    obtain ⟨l0, hl0⟩ : ∃ l0, l0 = m.reverse := ⟨_, rfl⟩
    rw [← hl0] at ih hml
    clear hl0
    subst hml
    have hren := l0
    clear hren
    revert ih h2 h3
    generalize l0 = l
    intro ih h2 h3
    rw [List.all_append, Bool.and_eq_true] at h2
    have hc := h2.2
    rw [List.all_cons, List.all_nil, Bool.and_true] at hc
    unfold isDg at hc
    simp at hc
    rw [List.foldl_append]
    show dig (10 * _ + (c.toNat - 48)) = _ ∧ 0 < 10 * _ + (c.toNat - 48)
    have hb : ∀ x : Nat, x < 10 → x = c.toNat - 48 → (48 + UInt8.ofNat x : UInt8) = c := by
      intro x hx e
      apply UInt8.toNat_inj.1
      rw [dig_byte x hx]; omega
    by_cases hl : l = []
    · subst hl
      have h9 : c ≠ 48 := fun e => h3 (by rw [e]; rfl)
      have h8 : c.toNat ≠ 48 := fun e => h9 (UInt8.toNat_inj.1 e)
      show dig (10 * 0 + (c.toNat - 48)) = [c] ∧ 0 < 10 * 0 + (c.toNat - 48)
      rw [dig_small _ (by omega), hb _ (by omega) (by omega)]
      exact ⟨rfl, by omega⟩
    · have hh : l.head? ≠ some 48 := by
        cases l with
        | nil => exact absurd rfl hl
        | cons a l => simpa using h3
      obtain ⟨e1, e2⟩ := ih hl h2.1 hh
      generalize l.foldl (fun (n : Nat) c => 10 * n + (c.toNat - 48)) 0 = x at *
      rw [dig_big _ (by omega), show (10 * x + (c.toNat - 48)) / 10 = x by omega, e1, hb _ (by omega) (by omega)]
      exact ⟨rfl, by omega⟩
theorem dig_val (l : List UInt8) : l ≠ [] → l.all isDg = true → l.head? ≠ some 48 → dig (l.foldl (fun (n : Nat) c => 10 * n + (c.toNat - 48)) 0) = l ∧ 0 < (l.foldl (fun (n : Nat) c => 10 * n + (c.toNat - 48)) 0) := dig_val_ l.reverse l (by simp)
theorem fold_cast (l : List UInt8) : ∀ (n : Nat), l.all isDg = true → l.foldl (fun (n : Int) c => 10 * n + ((c.toNat : Int) - 48)) (n : Int) = ((l.foldl (fun (n : Nat) c => 10 * n + (c.toNat - 48)) n : Nat) : Int) := by
  induction l with
  | nil => intro n _; rfl
  | cons c l ih =>
    intro n h
    rw [List.all_cons, Bool.and_eq_true] at h
    have hc := h.1
    unfold isDg at hc
    simp at hc
    show l.foldl _ (10 * (n : Int) + ((c.toNat : Int) - 48)) = ((l.foldl _ (10 * n + (c.toNat - 48)) : Nat) : Int)
    rw [show 10 * (n : Int) + ((c.toNat : Int) - 48) = ((10 * n + (c.toNat - 48) : Nat) : Int) by omega]
    exact ih _ h.2
theorem isN_text (l : List UInt8) (h : isN l = true) (hv : vaN l < 1000) : dig (vaN l).toNat = l := by
  obtain ⟨h0, h1, h2⟩ := (isN_iff l).1 h
  have hva : vaN l = numF 1000 0 l := by
    unfold vaN numL
    rw [if_neg (fun e => e.elim h0 h1), if_pos h2]
  rw [hva] at hv ⊢
  obtain ⟨e1, _⟩ := numF_mono 1000 l 0 (by omega) (by omega) h2 hv
  have e2 := fold_cast l 0 h2
  rw [e1, show (0 : Int) = ((0 : Nat) : Int) from rfl, e2, Int.toNat_natCast]
  by_cases hh : l.head? = some 48
  · have h3 : ¬ 1 < l.length := fun e => h1 ⟨e, hh⟩
    cases l with
    | nil => exact absurd rfl h0
    | cons a l =>
      cases l with
      | nil =>
        have ha : a = 48 := by simpa using hh
        subst ha
        rw [dig_small _ (by decide)]; rfl
      | cons b l => simp at h3
  · exact (dig_val l h0 h2 hh).1
theorem isN_dig (n : Nat) (h : (n : Int) ≤ 1000) : isN (dig n) = true ∧ vaN (dig n) = n := by
  have := numL_dig 1000 n h
  rw [numL_eq] at this
  exact ⟨congrArg Prod.snd this, congrArg Prod.fst this⟩
/-- five numbers' text -/
def tx5 (a b c d e : Nat) : List UInt8 := dig a ++ 46 :: (dig b ++ 46 :: (dig c ++ 46 :: (dig d ++ 47 :: dig e)))
theorem tx5_fm (a b c d e : Nat) (ha : a ≤ 1000) (hb : b ≤ 1000) (hc : c ≤ 1000) (hd : d ≤ 1000) (he : e ≤ 1000) : Fm (tx5 a b c d e) ((a : Int), (b : Int), (c : Int), (d : Int), (e : Int)) := by
  obtain ⟨a1, a2⟩ := isN_dig a (by omega)
  obtain ⟨b1, b2⟩ := isN_dig b (by omega)
  obtain ⟨c1, c2⟩ := isN_dig c (by omega)
  obtain ⟨d1, d2⟩ := isN_dig d (by omega)
  obtain ⟨e1, e2⟩ := isN_dig e (by omega)
  exact ⟨_, _, _, _, _, rfl, a1, b1, c1, d1, e1, by rw [a2, b2, c2, d2, e2]⟩
theorem fm_text (s : List UInt8) (a b c d e : Int) (h : Fm s (a, b, c, d, e)) (ha : a < 1000) (hb : b < 1000) (hc : c < 1000) (hd : d < 1000) (he : e < 1000) : s = tx5 a.toNat b.toNat c.toNat d.toNat e.toNat := by
  obtain ⟨d0, d1, d2, d3, d4, rfl, h0, h1, h2, h3, h4, hn⟩ := h
  cases hn
  unfold tx5
  rw [isN_text _ h0 ha, isN_text _ h1 hb, isN_text _ h2 hc, isN_text _ h3 hd, isN_text _ h4 he]
end Go.Proofs.YtckffheolnmcnabDoor.P

end
section
set_option linter.unusedVariables false
set_option linter.unusedSimpArgs false
namespace Go.Proofs.YtckffheolnmcnabDoor.P
open Go.RowKit Go.Proofs.YtckffheolnmcnabDoorW.PrintWords Go.Proofs.YtckffheolnmcnabDoorW.PrintLast Go.Proofs.YtckffheolnmcnabDoorW.PrintMore

/-- how many addresses a prefix of so many bits has -/
def un (b : Int) : Int := 2 ^ (32 - b).toNat
/-- an address -/
def isA (a : Int) : Prop := 0 ≤ a ∧ a ≤ 4294967295
/-- may a prefix be? -/
def mayB (a b : Int) : Bool := decide (0 ≤ b) && (decide (b ≤ 32) && decide (a % un b = 0))
theorem mayB_iff (a b : Int) : mayB a b = true ↔ 0 ≤ b ∧ b ≤ 32 ∧ a % un b = 0 := by
  unfold mayB; simp
theorem mask_is (b : Int) (h0 : 0 ≤ b) (h1 : b ≤ 32) : addr_mask.f b = some (4294967296 - un b) := by
  unfold addr_mask.f
  by_cases h : b = 0
  · subst h; rfl
  · rw [if_neg h, wrap64_in _ (by omega) (by omega), if_pos (by omega)]
    have := shl_all (32 - b).toNat (by omega)
    rw [show (((32 - b).toNat : Nat) : Int) = 32 - b by omega] at this
    rw [this]; rfl
theorem may_is (a b : Int) (ha : isA a) : addr_May.f a b = some (mayB a b) := by
  unfold addr_May.f mayB
  by_cases h0 : 0 ≤ b
  · rw [if_pos h0]
    by_cases h1 : b ≤ 32
    · rw [if_pos h1, mask_is b h0 h1, Option.bind_some]
      have := andNot_mask a (32 - b).toNat ha.1 (by have := ha.2; omega) (by omega)
      unfold un
      rw [this]
      simp [h0, h1]
      rfl
    · rw [if_neg h1]; simp [h0, h1]
  · rw [if_neg h0]; simp [h0]
end Go.Proofs.YtckffheolnmcnabDoor.P

end
section
set_option linter.unusedVariables false
set_option linter.unusedSimpArgs false
namespace Go.Proofs.YtckffheolnmcnabDoor.P
open Go.RowKit Go.Proofs.YtckffheolnmcnabDoorW.PrintWords Go.Proofs.YtckffheolnmcnabDoorW.PrintLast Go.Proofs.YtckffheolnmcnabDoorW.PrintMore

/-- what comes of five numbers -/
def adr (a b c d : Int) : Int := a * 16777216 + b * 65536 + c * 256 + d
def big (n : Int × Int × Int × Int × Int) : Bool := decide (255 < n.1) || decide (255 < n.2.1) || decide (255 < n.2.2.1) || decide (255 < n.2.2.2.1) || decide (32 < n.2.2.2.2)
def fin5 (n : Int × Int × Int × Int × Int) : Int × Int × Int :=
  if big n = true then (0, 0, 7) else if mayB (adr n.1 n.2.1 n.2.2.1 n.2.2.2.1) n.2.2.2.2 = true then (adr n.1 n.2.1 n.2.2.1 n.2.2.2.1, n.2.2.2.2, 0) else (0, 0, 1)
def parL (s : List UInt8) : Int × Int × Int := match prs s with
  | none => (0, 0, 4)
  | some n => fin5 n
theorem prs_rng (s : List UInt8) (n : Int × Int × Int × Int × Int) (h : prs s = some n) : (0 ≤ n.1 ∧ n.1 ≤ 1000) ∧ (0 ≤ n.2.1 ∧ n.2.1 ≤ 1000) ∧ (0 ≤ n.2.2.1 ∧ n.2.2.1 ≤ 1000) ∧ (0 ≤ n.2.2.2.1 ∧ n.2.2.2.1 ≤ 1000) ∧ (0 ≤ n.2.2.2.2 ∧ n.2.2.2.2 ≤ 1000) := by
  obtain ⟨d0, d1, d2, d3, d4, _, _, _, _, _, _, rfl⟩ := prs_sound s n h
  exact ⟨vaN_rng d0, vaN_rng d1, vaN_rng d2, vaN_rng d3, vaN_rng d4⟩
end Go.Proofs.YtckffheolnmcnabDoor.P

end
section
set_option linter.unusedVariables false
set_option linter.unusedSimpArgs false
namespace Go.Proofs.YtckffheolnmcnabDoor.P
open Go.RowKit Go.Proofs.YtckffheolnmcnabDoorW.PrintWords Go.Proofs.YtckffheolnmcnabDoorW.PrintLast Go.Proofs.YtckffheolnmcnabDoorW.PrintMore

theorem aNum_is (l : List UInt8) (h : l.length ≤ 100000) : addr_number.f (tx l) = some (vaN l, isN l) := by
  unfold addr_number.f
  rw [if_pos (by rw [tx_size]; omega)]; rfl
theorem rd_tx (l : List (List UInt8)) (i : Nat) (p : List UInt8) (h : l[i]? = some p) : rdOf ByteArray.empty (l.map tx) (i : Int) = tx p := by
  unfold rdOf
  rw [Int.toNat_natCast, List.getD_eq_getElem?_getD, List.getElem?_map, h]; rfl
/-- the address behind one number more -/
def nx (a n : Int) : Int := Go.bits .or .u32 ((a * 256) % 4294967296) (n % 4294967296)
theorem nx_is (a n : Int) (ha : 0 ≤ a) (ha1 : a ≤ 16777215) (hn : 0 ≤ n) (hn1 : n ≤ 255) : nx a n = a * 256 + n := by
  unfold nx
  rw [Int.emod_eq_of_lt (by omega) (by omega), Int.emod_eq_of_lt (by omega) (by omega)]
  exact or_join (a * 256) n 8 (by omega) (by omega) (by omega) (by omega) hn (by omega)
theorem parStep (l : List (List UInt8)) (hl : l.length = 5) (hs : ∀ p, p ∈ l → p.length ≤ 100000) (i : Nat) (hi : i < 4) (p : List UInt8) (hp : l[i]? = some p) (w : Bool) (a b : Int) (R : Int × Int × Int)
    (h0 : isN p = false → R = (0, 0, 4)) (h1 : isN p = true → Evt (fun k => addr_Parse.l0 k (w || decide (vaN p > 255)) (l.map tx) 5 ((i + 1 : Nat) : Int) (nx a (vaN p)) b) R) :
    Evt (fun k => addr_Parse.l0 k w (l.map tx) 5 (i : Int) a b) R := by
  have hm : p ∈ l := List.mem_of_getElem? hp
  refine Evt.step ?_
  simp only [addr_Parse.l0]
  refine Evt.ite_pos (by omega) (Evt.ite_pos (by omega) (Evt.ite_pos (by rw [List.length_map, hl]; omega) ?_))
  rw [rd_tx l i p hp]
  refine Evt.bindc (aNum_is p (hs p hm)) ?_
  rw [wrap64_in ((i : Int) + 1) (by omega) (by omega), show (i : Int) + 1 = ((i + 1 : Nat) : Int) by omega]
  by_cases hn : isN p = true
  · have h1 := h1 hn
    refine Evt.ite_pos hn (Evt.ite_pos (by omega) ?_)
    cases w with
    | true => rw [Bool.true_or] at h1; exact Evt.ite_pos rfl h1
    | false => rw [Bool.false_or] at h1; exact Evt.ite_neg (by simp) h1
  · rw [h0 (Bool.eq_false_iff.mpr hn)]
    exact Evt.ite_neg hn (Evt.pure _)
theorem parLast (l : List (List UInt8)) (hl : l.length = 5) (hs : ∀ p, p ∈ l → p.length ≤ 100000) (p : List UInt8) (hp : l[4]? = some p) (w : Bool) (a b : Int) (R : Int × Int × Int)
    (h0 : isN p = false → R = (0, 0, 4)) (h1 : isN p = true → Evt (fun k => addr_Parse.l0 k (w || decide (vaN p > 32)) (l.map tx) 5 5 a (vaN p)) R) :
    Evt (fun k => addr_Parse.l0 k w (l.map tx) 5 4 a b) R := by
  have hm : p ∈ l := List.mem_of_getElem? hp
  refine Evt.step ?_
  simp only [addr_Parse.l0]
  refine Evt.ite_pos (by omega) (Evt.ite_pos (by omega) (Evt.ite_pos (by rw [List.length_map, hl]; omega) ?_))
  rw [show (4 : Int) = ((4 : Nat) : Int) from rfl, rd_tx l 4 p hp]
  refine Evt.bindc (aNum_is p (hs p hm)) ?_
  rw [show wrap64 (((4 : Nat) : Int) + 1) = 5 from wrap64_in _ (by omega) (by omega)]
  by_cases hn : isN p = true
  · have h1 := h1 hn
    refine Evt.ite_pos hn (Evt.ite_neg (by omega) ?_)
    cases w with
    | true => rw [Bool.true_or] at h1; exact Evt.ite_pos rfl h1
    | false => rw [Bool.false_or] at h1; exact Evt.ite_neg (by simp) h1
  · rw [h0 (Bool.eq_false_iff.mpr hn)]
    exact Evt.ite_neg hn (Evt.pure _)
theorem parEnd (l : List (List UInt8)) (w : Bool) (a b : Int) (R : Int × Int × Int) (h0 : w = true → R = (0, 0, 7)) (h1 : w = false → isA a ∧ R = if mayB a b = true then (a, b, 0) else (0, 0, 1)) :
    Evt (fun k => addr_Parse.l0 k w (l.map tx) 5 5 a b) R := by
  refine Evt.step ?_
  simp only [addr_Parse.l0]
  refine Evt.ite_neg (by omega) ?_
  cases w with
  | true => rw [h0 rfl]; exact Evt.ite_pos rfl (Evt.pure _)
  | false =>
    obtain ⟨hA, hR⟩ := h1 rfl
    refine Evt.ite_neg (by simp) (Evt.bindc (may_is a b hA) ?_)
    by_cases hm : mayB a b = true
    · have hR2 : R = (a, b, 0) := by rw [hR, if_pos hm]
      rw [hR2]; exact Evt.ite_pos hm (Evt.pure _)
    · have hR2 : R = (0, 0, 1) := by rw [hR, if_neg hm]
      rw [hR2]; exact Evt.ite_neg hm (Evt.pure _)
/-- a text in lists, out of a text of bytes -/
theorem map_tx_of (l : List ByteArray) (m : List (List UInt8)) (h : l.map (·.data.toList) = m) : l = m.map tx := by
  subst h
  rw [List.map_map]
  conv => lhs; rw [← List.map_id l]
  apply List.map_congr_left
  intro x _
  show x = tx x.data.toList
  unfold tx
  simp
theorem split_is (a : List UInt8) (ha : a.length ≤ 5000) (c : UInt8) : strings_Split.f (tx a) ⟨#[c]⟩ = some ((Lib.split a [c]).map tx) := by
  have e1 : ((⟨#[c]⟩ : ByteArray)).data.toList = [c] := rfl
  have e2 : (tx a).data.toList = a := by simp [tx]
  unfold strings_Split.f
  rw [e1]
  simp only
  rw [if_pos (by rw [tx_size]; omega)]
  have := Lib.splitB_data ⟨#[c]⟩ 0 (Lib.countB (tx a) ⟨#[c]⟩) (tx a)
  rw [e1, e2] at this
  have hc : Lib.countB (tx a) ⟨#[c]⟩ = Lib.count a [c] := by
    show Lib.count (tx a).data.toList [c] = _
    rw [e2]
  rw [map_tx_of _ _ this, hc]; rfl
theorem split_mem (a : List UInt8) (c : UInt8) (p : List UInt8) (h : p ∈ Lib.split a [c]) : p.length ≤ a.length := by
  have key : ∀ (n : Nat) (a : List UInt8), a.length ≤ n → p ∈ Lib.split a [c] → p.length ≤ a.length := by
    intro n
    induction n with
    | zero =>
      intro a ha hp
      have : a = [] := List.length_eq_zero_iff.1 (by omega)
      subst this
      rw [sp_none [] c (fun x hx => by cases hx)] at hp
      simp at hp; rw [hp]; simp
    | succ n ih =>
      intro a ha hp
      rcases cut_or a c with h1 | ⟨u, v, h1, rfl⟩
      · rw [sp_none a c h1] at hp
        simp at hp; rw [hp]; exact Nat.le_refl _
      · rw [sp_app u v c h1] at hp
        rcases List.mem_cons.1 hp with rfl | hp
        · simp
        · have h2 := ih v (by simp at ha; omega) hp
          simp; omega
  exact key a.length a (Nat.le_refl _) h
theorem split_len (a : List UInt8) (c : UInt8) : (Lib.split a [c]).length ≤ a.length + 1 := by
  have key : ∀ (n : Nat) (a : List UInt8), a.length ≤ n → (Lib.split a [c]).length ≤ a.length + 1 := by
    intro n
    induction n with
    | zero =>
      intro a ha
      have : a = [] := List.length_eq_zero_iff.1 (by omega)
      subst this
      rw [sp_none [] c (fun x hx => by cases hx)]; simp
    | succ n ih =>
      intro a ha
      rcases cut_or a c with h1 | ⟨u, v, h1, rfl⟩
      · rw [sp_none a c h1]; simp
      · rw [sp_app u v c h1]
        have h2 := ih v (by simp at ha; omega)
        simp; omega
  exact key a.length a (Nat.le_refl _)
theorem progParse_ev (s : List UInt8) (hs : s.length ≤ 5000) : Evt (fun k => addr_Parse.f k (tx s)) (parL s) := by
  have e1 : ((⟨#[47]⟩ : ByteArray)).data.toList = [47] := rfl
  have e2 : (tx s).data.toList = s := by simp [tx]
  have F : ∀ x, Evt (fun k => addr_Parse.j0 k x true) ((0, 0, 4) : Int × Int × Int) := fun x => by
    refine Evt.step ?_
    simp only [addr_Parse.j0]
    exact Evt.ite_pos trivial (Evt.pure _)
  have hlt := indexByte_lt s 47
  unfold addr_Parse.f
  by_cases h4 : 0 ≤ Lib.indexByte s 47
  · have hc : strings_Cut.f (tx s) (⟨#[47]⟩ : ByteArray) = some (tx (s.take (Lib.indexByte s 47).toNat), tx (s.drop ((Lib.indexByte s 47).toNat + 1)), true) := by
      unfold strings_Cut.f
      rw [e1, e2]
      simp only
      rw [if_pos (by rw [tx_size]; omega), if_pos h4]; rfl
    have hpr : prs s = match Lib.split (s.take (Lib.indexByte s 47).toNat) [46] with
      | [p0, p1, p2, p3] => if isN p0 = true ∧ isN p1 = true ∧ isN p2 = true ∧ isN p3 = true ∧ isN (s.drop ((Lib.indexByte s 47).toNat + 1)) = true then some (vaN p0, vaN p1, vaN p2, vaN p3, vaN (s.drop ((Lib.indexByte s 47).toNat + 1))) else none
      | _ => none := by unfold prs; exact if_pos h4
    have hal : (s.take (Lib.indexByte s 47).toNat).length ≤ s.length := by rw [List.length_take]; omega
    have hbl : (s.drop ((Lib.indexByte s 47).toNat + 1)).length ≤ s.length := by rw [List.length_drop]; omega
    generalize s.take (Lib.indexByte s 47).toNat = a at *
    generalize s.drop ((Lib.indexByte s 47).toNat + 1) = b at *
    have hsl := split_len a 46
    have hsm := split_mem a 46
    refine Evt.bindc hc (Evt.bindc (split_is a (by omega) 46) (Evt.ite_pos (by rw [List.length_map]; omega) (Evt.bindc rfl (Evt.ite_pos rfl ?_))))
    rw [show ((Lib.split a [46]).map tx ++ [tx b] : List ByteArray) = (Lib.split a [46] ++ [b]).map tx by simp]
    by_cases h5 : (Lib.split a [46]).length = 4
    · match hq : Lib.split a [46], h5 with
      | [p0, p1, p2, p3], _ =>
        rw [hq] at hpr hsm
        have l0 := hsm p0 (by simp)
        have l1 := hsm p1 (by simp)
        have l2 := hsm p2 (by simp)
        have l3 := hsm p3 (by simp)
        have hlen : ([p0, p1, p2, p3, b] : List (List UInt8)).length = 5 := rfl
        have hmem : ∀ p, p ∈ ([p0, p1, p2, p3, b] : List (List UInt8)) → p.length ≤ 100000 := by
          intro p hp
          simp only [List.mem_cons, List.mem_nil_iff, or_false] at hp
          rcases hp with rfl | rfl | rfl | rfl | rfl <;> omega
        refine Evt.step ?_
        simp only [addr_Parse.j0]
        refine Evt.ite_neg (by simp) ?_
        show Evt (fun k => addr_Parse.l0 k false (([p0, p1, p2, p3, b] : List (List UInt8)).map tx) 5 ((0 : Nat) : Int) 0 0) (parL s)
        replace hpr : prs s = if isN p0 = true ∧ isN p1 = true ∧ isN p2 = true ∧ isN p3 = true ∧ isN b = true then some (vaN p0, vaN p1, vaN p2, vaN p3, vaN b) else none := hpr
        have no : ¬ (isN p0 = true ∧ isN p1 = true ∧ isN p2 = true ∧ isN p3 = true ∧ isN b = true) → parL s = (0, 0, 4) := fun h => by unfold parL; rw [hpr, if_neg h]
        have v0 := vaN_rng p0
        have v1 := vaN_rng p1
        have v2 := vaN_rng p2
        have v3 := vaN_rng p3
        have v4 := vaN_rng b
        refine parStep _ hlen hmem 0 (by omega) p0 rfl _ _ _ _ (fun h => no (by rw [h]; simp)) fun g0 => ?_
        refine parStep _ hlen hmem 1 (by omega) p1 rfl _ _ _ _ (fun h => no (by rw [h]; simp)) fun g1 => ?_
        refine parStep _ hlen hmem 2 (by omega) p2 rfl _ _ _ _ (fun h => no (by rw [h]; simp)) fun g2 => ?_
        refine parStep _ hlen hmem 3 (by omega) p3 rfl _ _ _ _ (fun h => no (by rw [h]; simp)) fun g3 => ?_
        refine parLast _ hlen hmem b rfl _ _ _ _ (fun h => no (by rw [h]; simp)) fun g4 => ?_
        have hP2 : parL s = fin5 (vaN p0, vaN p1, vaN p2, vaN p3, vaN b) := by unfold parL; rw [hpr, if_pos ⟨g0, g1, g2, g3, g4⟩]
        have hbig : (((((false || decide (vaN p0 > 255)) || decide (vaN p1 > 255)) || decide (vaN p2 > 255)) || decide (vaN p3 > 255)) || decide (vaN b > 32)) = big (vaN p0, vaN p1, vaN p2, vaN p3, vaN b) := by
          unfold big; simp only [Bool.false_or]
        rw [hbig]
        refine parEnd _ _ _ _ _ (fun h => by rw [hP2]; unfold fin5; rw [if_pos h]) fun h => ?_
        have hle : vaN p0 ≤ 255 ∧ vaN p1 ≤ 255 ∧ vaN p2 ≤ 255 ∧ vaN p3 ≤ 255 ∧ vaN b ≤ 32 := by unfold big at h; simp at h; omega
        have n0 : nx 0 (vaN p0) = vaN p0 := by rw [nx_is _ _ (by omega) (by omega) (by omega) (by omega)]; omega
        have n1 : nx (vaN p0) (vaN p1) = vaN p0 * 256 + vaN p1 := nx_is _ _ (by omega) (by omega) (by omega) (by omega)
        have n2 : nx (vaN p0 * 256 + vaN p1) (vaN p2) = (vaN p0 * 256 + vaN p1) * 256 + vaN p2 := nx_is _ _ (by omega) (by omega) (by omega) (by omega)
        have n3 : nx ((vaN p0 * 256 + vaN p1) * 256 + vaN p2) (vaN p3) = ((vaN p0 * 256 + vaN p1) * 256 + vaN p2) * 256 + vaN p3 := nx_is _ _ (by omega) (by omega) (by omega) (by omega)
        have hadr : ((vaN p0 * 256 + vaN p1) * 256 + vaN p2) * 256 + vaN p3 = adr (vaN p0) (vaN p1) (vaN p2) (vaN p3) := by unfold adr; omega
        rw [n0, n1, n2, n3, hadr]
        refine ⟨by unfold isA adr; omega, ?_⟩
        rw [hP2]
        unfold fin5
        rw [if_neg (by rw [h]; simp)]
    · have hP : parL s = (0, 0, 4) := by
        unfold parL
        have : prs s = none := by
          rw [hpr]
          split
          · rename_i p0 p1 p2 p3 hq; rw [hq] at h5; exact absurd rfl h5
          · rfl
        rw [this]
      rw [hP]
      have : ((((Lib.split a [46] ++ [b]).map tx).length : Int) != 5) = true := by
        rw [List.length_map, List.length_append]
        simp only [List.length_cons, List.length_nil]
        rw [bne, beq_eq_false_iff_ne.2 (by omega)]; rfl
      rw [this]
      exact F _
  · have hc : strings_Cut.f (tx s) (⟨#[47]⟩ : ByteArray) = some (tx s, tx [], false) := by
      unfold strings_Cut.f
      rw [e1, e2]
      simp only
      rw [if_pos (by rw [tx_size]; omega), if_neg h4]; rfl
    have hP : parL s = (0, 0, 4) := by
      unfold parL prs
      rw [if_neg h4]
    have hsl := split_len s 46
    rw [hP]
    exact Evt.bindc hc (Evt.bindc (split_is s (by omega) 46) (Evt.ite_pos (by rw [List.length_map]; omega) (Evt.bindc rfl (Evt.ite_neg (by simp) (F _)))))
/-- the four bytes of an address -/
def by0 (a : Int) : Int := a / 16777216
def by1 (a : Int) : Int := a / 65536 % 256
def by2 (a : Int) : Int := a / 256 % 256
def by3 (a : Int) : Int := a % 256
theorem adr_by (a : Int) : adr (by0 a) (by1 a) (by2 a) (by3 a) = a := by unfold adr by0 by1 by2 by3; omega
theorem by_adr (a b c d : Int) (ha : 0 ≤ a ∧ a ≤ 255) (hb : 0 ≤ b ∧ b ≤ 255) (hc : 0 ≤ c ∧ c ≤ 255) (hd : 0 ≤ d ∧ d ≤ 255) : by0 (adr a b c d) = a ∧ by1 (adr a b c d) = b ∧ by2 (adr a b c d) = c ∧ by3 (adr a b c d) = d := by unfold adr by0 by1 by2 by3; omega
theorem by_rng (a : Int) (h : isA a) : (0 ≤ by0 a ∧ by0 a ≤ 255) ∧ (0 ≤ by1 a ∧ by1 a ≤ 255) ∧ (0 ≤ by2 a ∧ by2 a ≤ 255) ∧ (0 ≤ by3 a ∧ by3 a ≤ 255) := by
  obtain ⟨h0, h1⟩ := h
  unfold by0 by1 by2 by3; omega
theorem and_255 (x : Int) (h0 : 0 ≤ x) (h1 : x < 4294967296) : Go.bits .and .u32 x 255 = x % 256 := by
  obtain ⟨n, rfl⟩ := Int.eq_ofNat_of_zero_le h0
  show IntKind.u32.wrap ((BitVec.ofInt 32 (n : Int) &&& BitVec.ofInt 32 255).toNat : Int) = _
  have e2 : BitVec.ofInt 32 255 = BitVec.ofNat 32 (2 ^ 8 - 1) := by decide
  rw [e2, IntKind.wrap_u32, ofN, BitVec.toNat_and, BitVec.toNat_ofNat, BitVec.toNat_ofNat]
  have hx : n % 2 ^ 32 = n := Nat.mod_eq_of_lt (by omega)
  have hq : (2 ^ 8 - 1) % 2 ^ 32 = 2 ^ 8 - 1 := by decide
  rw [hx, hq, Nat.and_two_pow_sub_one_eq_mod]
  omega
theorem aDig_is (n : Int) (h0 : 0 ≤ n) (h1 : n ≤ 4294967295) : addr_digits.f n = some (tx (dig n.toNat)) := by
  unfold addr_digits.f
  rw [if_pos ⟨h0, h1⟩]; rfl
/-- a prefix's text -/
def txP (a b : Int) : List UInt8 := if mayB a b = true then tx5 (by0 a).toNat (by1 a).toNat (by2 a).toNat (by3 a).toNat b.toNat else []
theorem dig_small_len (n : Nat) (h : n ≤ 255) : (dig n).length ≤ 3 := by
  have : ∀ n : Fin 256, (dig n.val).length ≤ 3 := by
    intro n
    by_cases h1 : n.val < 10
    · rw [dig_small _ h1]; simp
    · rw [dig_big _ h1]
      by_cases h2 : n.val / 10 < 10
      · rw [dig_small _ h2]; simp
      · rw [dig_big _ h2, dig_small _ (by omega)]; simp
  exact this ⟨n, by omega⟩
theorem join_four (d0 d1 d2 d3 : List UInt8) : Lib.join [d0, d1, d2, d3] [46] = d0 ++ 46 :: (d1 ++ 46 :: (d2 ++ 46 :: d3)) := by simp [Lib.join]
theorem progText_ev (a b : Int) (ha : isA a) : Evt (fun k => addr_Text.f k a b) (tx (txP a b)) := by
  unfold addr_Text.f txP
  refine Evt.bindc (may_is a b ha) ?_
  by_cases hm : mayB a b = true
  · obtain ⟨b0, b1, _⟩ := (mayB_iff a b).1 hm
    rw [if_pos hm]
    refine Evt.ite_pos hm ?_
    obtain ⟨r0, r1, r2, r3⟩ := by_rng a ha
    have hp := ha.1
    have hq := ha.2
    have s0 : addr_digits.f (Go.bits .and .u32 (shr .u32 a (wrap64 (24 - wrap64 (8 * 0)))) 255) = some (tx (dig (by0 a).toNat)) := by
      rw [wrap64_in (8 * 0) (by omega) (by omega), wrap64_in (24 - 8 * 0) (by omega) (by omega)]
      have : shr .u32 a (24 - 8 * 0) = a / 16777216 := rfl
      rw [this, and_255 _ (by omega) (by omega), show a / 16777216 % 256 = by0 a by unfold by0; omega]
      exact aDig_is _ (by omega) (by omega)
    have s1 : addr_digits.f (Go.bits .and .u32 (shr .u32 a (wrap64 (24 - wrap64 (8 * 1)))) 255) = some (tx (dig (by1 a).toNat)) := by
      rw [wrap64_in (8 * 1) (by omega) (by omega), wrap64_in (24 - 8 * 1) (by omega) (by omega)]
      have : shr .u32 a (24 - 8 * 1) = a / 65536 := rfl
      rw [this, and_255 _ (by omega) (by omega)]
      exact aDig_is (by1 a) (by omega) (by omega)
    have s2 : addr_digits.f (Go.bits .and .u32 (shr .u32 a (wrap64 (24 - wrap64 (8 * 2)))) 255) = some (tx (dig (by2 a).toNat)) := by
      rw [wrap64_in (8 * 2) (by omega) (by omega), wrap64_in (24 - 8 * 2) (by omega) (by omega)]
      have : shr .u32 a (24 - 8 * 2) = a / 256 := rfl
      rw [this, and_255 _ (by omega) (by omega)]
      exact aDig_is (by2 a) (by omega) (by omega)
    have s3 : addr_digits.f (Go.bits .and .u32 (shr .u32 a (wrap64 (24 - wrap64 (8 * 3)))) 255) = some (tx (dig (by3 a).toNat)) := by
      rw [wrap64_in (8 * 3) (by omega) (by omega), wrap64_in (24 - 8 * 3) (by omega) (by omega)]
      have : shr .u32 a (24 - 8 * 3) = a / 1 := rfl
      rw [this, Int.ediv_one, and_255 _ (by omega) (by omega)]
      exact aDig_is (by3 a) (by omega) (by omega)
    have l0 := dig_small_len (by0 a).toNat (by omega)
    have l1 := dig_small_len (by1 a).toNat (by omega)
    have l2 := dig_small_len (by2 a).toNat (by omega)
    have l3 := dig_small_len (by3 a).toNat (by omega)
    have l4 := dig_small_len b.toNat (by omega)
    have h4 : addr_digits.f (b % 4294967296) = some (tx (dig b.toNat)) := by
      rw [Int.emod_eq_of_lt (by omega) (by omega)]; exact aDig_is b (by omega) (by omega)
    unfold tx5
    generalize dig (by0 a).toNat = d0 at *
    generalize dig (by1 a).toNat = d1 at *
    generalize dig (by2 a).toNat = d2 at *
    generalize dig (by3 a).toNat = d3 at *
    generalize dig b.toNat = d4 at *
    refine Evt.step ?_
    simp only [addr_Text.l0]
    refine Evt.ite_pos (by omega) (Evt.ite_pos (by unfold wrap64; omega) (Evt.bindc s0 (Evt.ite_pos (by simp) ?_)))
    rw [show wrap64 (0 + 1) = 1 from by unfold wrap64; omega]
    refine Evt.step ?_
    simp only [addr_Text.l0]
    refine Evt.ite_pos (by omega) (Evt.ite_pos (by unfold wrap64; omega) (Evt.bindc s1 (Evt.ite_pos (by simp) ?_)))
    rw [show wrap64 (1 + 1) = 2 from by unfold wrap64; omega]
    refine Evt.step ?_
    simp only [addr_Text.l0]
    refine Evt.ite_pos (by omega) (Evt.ite_pos (by unfold wrap64; omega) (Evt.bindc s2 (Evt.ite_pos (by simp) ?_)))
    rw [show wrap64 (2 + 1) = 3 from by unfold wrap64; omega]
    refine Evt.step ?_
    simp only [addr_Text.l0]
    refine Evt.ite_pos (by omega) (Evt.ite_pos (by unfold wrap64; omega) (Evt.bindc s3 (Evt.ite_pos (by simp) ?_)))
    rw [show wrap64 (3 + 1) = 4 from by unfold wrap64; omega]
    refine Evt.step ?_
    simp only [addr_Text.l0]
    refine Evt.ite_neg (by omega) ?_
    have hj : strings_Join.f ([] ++ [tx d0] ++ [tx d1] ++ [tx d2] ++ [tx d3]) (⟨#[46]⟩ : ByteArray) = some (tx (d0 ++ 46 :: (d1 ++ 46 :: (d2 ++ 46 :: d3)))) := by
      have e : (([] ++ [tx d0] ++ [tx d1] ++ [tx d2] ++ [tx d3] : List ByteArray).map (·.data.toList)) = [d0, d1, d2, d3] := by simp [tx]
      unfold strings_Join.f
      rw [e, show ((⟨#[46]⟩ : ByteArray)).data.toList = [46] from rfl, join_four, if_pos]
      · rfl
      · constructor
        · simp
        · simp; omega
    refine Evt.bindc hj (Evt.ite_pos (by rw [tx_size]; simp; omega) (Evt.bindc h4 ?_))
    rw [show (⟨#[47]⟩ : ByteArray) = tx [47] from rfl, tx_app, tx_app, tx_size, tx_size]
    refine Evt.ite_pos (by simp; omega) (Evt.of fun k => ?_)
    simp
  · rw [if_neg hm]
    exact Evt.ite_neg hm (Evt.pure _)
end Go.Proofs.YtckffheolnmcnabDoor.P

end
section
set_option linter.unusedVariables false
set_option linter.unusedSimpArgs false
namespace Go.Proofs.YtckffheolnmcnabDoor.P
open Go.RowKit Go.Proofs.YtckffheolnmcnabDoorW.PrintWords Go.Proofs.YtckffheolnmcnabDoorW.PrintLast Go.Proofs.YtckffheolnmcnabDoorW.PrintMore

theorem sort_two : sortP [(⟨167772160, 9⟩ : S24), ⟨176160768, 9⟩] = [(⟨167772160, 9⟩ : S24), ⟨176160768, 9⟩] := by
  unfold sortP
  apply List.mergeSort_of_pairwise
  decide
theorem lives_ev : Evt (fun k => whirligiglaw01_lives.f k) true := by
  refine Evt.of_mono (K := 12) (fun k => whirligiglaw01_lives.mono k) ?_
  unfold whirligiglaw01_lives.f addr_Plain.f addr_plain.f
  rw [sort_two]
  decide +kernel
end Go.Proofs.YtckffheolnmcnabDoor.P

end
section
namespace Go.Proofs.YtckffheolnmcnabDoor.Pure
open Go.RowKit Go.Proofs.YtckffheolnmcnabDoor.P Go.Proofs.YtckffheolnmcnabDoorW.PrintWords Go.Proofs.YtckffheolnmcnabDoorW.PrintLast Go.Proofs.YtckffheolnmcnabDoorW.PrintMore
set_option linter.unusedVariables false
set_option linter.unusedSimpArgs false

theorem parL_text (a b : Int) (ha : isA a) (hm : mayB a b = true) : parL (txP a b) = (a, b, 0) := by
  obtain ⟨b0, b1, _⟩ := (mayB_iff a b).1 hm
  obtain ⟨r0, r1, r2, r3⟩ := by_rng a ha
  have hf := tx5_fm (by0 a).toNat (by1 a).toNat (by2 a).toNat (by3 a).toNat b.toNat (by omega) (by omega) (by omega) (by omega) (by omega)
  have hp : prs (txP a b) = some (by0 a, by1 a, by2 a, by3 a, b) := by
    unfold txP
    rw [if_pos hm]
    refine prs_full _ _ ?_
    rw [Int.toNat_of_nonneg r0.1, Int.toNat_of_nonneg r1.1, Int.toNat_of_nonneg r2.1, Int.toNat_of_nonneg r3.1, Int.toNat_of_nonneg b0] at hf
    exact hf
  unfold parL
  rw [hp]
  show fin5 (by0 a, by1 a, by2 a, by3 a, b) = (a, b, 0)
  unfold fin5
  rw [if_neg (by unfold big; simp; omega)]
  show (if mayB (adr (by0 a) (by1 a) (by2 a) (by3 a)) b = true then (adr (by0 a) (by1 a) (by2 a) (by3 a), b, 0) else (0, 0, 1)) = (a, b, 0)
  rw [adr_by, if_pos hm]
theorem parL_none : parL [] = (0, 0, 4) := by
  unfold parL prs
  rw [if_neg (by decide)]
theorem parL_back (s : List UInt8) (h : (parL s).2.2 = 0) : isA (parL s).1 ∧ mayB (parL s).1 (parL s).2.1 = true ∧ txP (parL s).1 (parL s).2.1 = s := by
  unfold parL at h ⊢
  cases hp : prs s with
  | none => rw [hp] at h; cases h
  | some n =>
    rw [hp] at h
    obtain ⟨n0, n1, n2, n3, n4⟩ := n
    obtain ⟨b0, b1, b2, b3, b4⟩ := prs_rng s _ hp
    have hf := prs_sound s _ hp
    show isA (fin5 (n0, n1, n2, n3, n4)).1 ∧ mayB (fin5 (n0, n1, n2, n3, n4)).1 (fin5 (n0, n1, n2, n3, n4)).2.1 = true ∧ txP (fin5 (n0, n1, n2, n3, n4)).1 (fin5 (n0, n1, n2, n3, n4)).2.1 = s
    have h : (fin5 (n0, n1, n2, n3, n4)).2.2 = 0 := h
    simp only at b0 b1 b2 b3 b4
    unfold fin5 at h ⊢
    by_cases hb : big (n0, n1, n2, n3, n4) = true
    · rw [if_pos hb] at h; cases h
    · rw [if_neg hb] at h ⊢
      have hle : n0 ≤ 255 ∧ n1 ≤ 255 ∧ n2 ≤ 255 ∧ n3 ≤ 255 ∧ n4 ≤ 32 := by unfold big at hb; simp at hb; omega
      by_cases hm : mayB (adr n0 n1 n2 n3) n4 = true
      · have e : (if mayB (adr (n0, n1, n2, n3, n4).1 (n0, n1, n2, n3, n4).2.1 (n0, n1, n2, n3, n4).2.2.1 (n0, n1, n2, n3, n4).2.2.2.1) (n0, n1, n2, n3, n4).2.2.2.2 = true then (adr (n0, n1, n2, n3, n4).1 (n0, n1, n2, n3, n4).2.1 (n0, n1, n2, n3, n4).2.2.1 (n0, n1, n2, n3, n4).2.2.2.1, (n0, n1, n2, n3, n4).2.2.2.2, (0 : Int)) else (0, 0, 1)) = (adr n0 n1 n2 n3, n4, 0) := if_pos hm
        rw [e]
        obtain ⟨y0, y1, y2, y3⟩ := by_adr n0 n1 n2 n3 (by omega) (by omega) (by omega) (by omega)
        refine ⟨by show isA (adr n0 n1 n2 n3); unfold isA adr; omega, hm, ?_⟩
        show txP (adr n0 n1 n2 n3) n4 = s
        unfold txP
        rw [if_pos hm, y0, y1, y2, y3]
        exact (fm_text s n0 n1 n2 n3 n4 hf (by omega) (by omega) (by omega) (by omega) (by omega)).symm
      · have e : (if mayB (adr (n0, n1, n2, n3, n4).1 (n0, n1, n2, n3, n4).2.1 (n0, n1, n2, n3, n4).2.2.1 (n0, n1, n2, n3, n4).2.2.2.1) (n0, n1, n2, n3, n4).2.2.2.2 = true then (adr (n0, n1, n2, n3, n4).1 (n0, n1, n2, n3, n4).2.1 (n0, n1, n2, n3, n4).2.2.1 (n0, n1, n2, n3, n4).2.2.2.1, (n0, n1, n2, n3, n4).2.2.2.2, (0 : Int)) else (0, 0, 1)) = (0, 0, 1) := if_neg hm
        rw [e] at h; cases h
theorem txP_len (a b : Int) (ha : isA a) : (txP a b).length ≤ 100 := by
  unfold txP
  by_cases hm : mayB a b = true
  · obtain ⟨b0, b1, _⟩ := (mayB_iff a b).1 hm
    obtain ⟨r0, r1, r2, r3⟩ := by_rng a ha
    have l0 := dig_small_len (by0 a).toNat (by omega)
    have l1 := dig_small_len (by1 a).toNat (by omega)
    have l2 := dig_small_len (by2 a).toNat (by omega)
    have l3 := dig_small_len (by3 a).toNat (by omega)
    have l4 := dig_small_len b.toNat (by omega)
    rw [if_pos hm]
    unfold tx5
    simp only [List.length_append, List.length_cons]
    omega
  · rw [if_neg hm]; simp
theorem AddrBack (x0 : S24) (x1 : ByteArray) (ok_0 : (ok24) x0) (ok_1 : (okS) x1) : ∃ k, Go.Proofs.YtckffheolnmcnabDoor.P.whirligiglaw01_AddrBack.f k x0.f0 x0.f1 x1 = some true := by
  obtain ⟨a, b⟩ := x0
  have ha : isA a := okI_u32 ok_0.1
  show ∃ k, Go.Proofs.YtckffheolnmcnabDoor.P.whirligiglaw01_AddrBack.f k a b x1 = some true
  obtain ⟨s, rfl⟩ : ∃ s, x1 = tx s := ⟨x1.data.toList, by unfold tx; simp⟩
  refine Evt.ex ?_
  have hL : Evt (fun k => (whirligiglaw01_lives.f k).bind fun t => some t) true := Evt.bind lives_ev (Evt.pure _)
  unfold whirligiglaw01_AddrBack.f
  by_cases h : ((tx s).size : Int) > 2000
  · exact Evt.ite_pos h hL
  · rw [tx_size] at h
    refine Evt.ite_neg (by rw [tx_size]; exact h) ?_
    have hl := txP_len a b ha
    have J : Evt (fun k => whirligiglaw01_AddrBack.j0 k (tx s) false) true := by
      refine Evt.step ?_
      simp only [whirligiglaw01_AddrBack.j0]
      refine Evt.ite_neg (by simp) (Evt.bind (progParse_ev s (by omega)) ?_)
      by_cases he : (parL s).2.2 = 0
      · obtain ⟨h1, h2, h3⟩ := parL_back s he
        refine Evt.ite_pos he (Evt.bind (progText_ev _ _ h1) (Evt.ite_pos (by rw [h3]) (Evt.bindc (may_is _ _ h1) (Evt.ite_pos h2 hL))))
      · exact Evt.ite_neg he hL
    refine Evt.bind (progText_ev a b ha) (Evt.bind (progParse_ev _ (by omega)) (Evt.bindc (may_is a b ha) ?_))
    by_cases hm : mayB a b = true
    · rw [parL_text a b ha hm, hm]
      refine Evt.ite_neg (by simp) (Evt.ite_pos rfl ?_)
      show Evt (fun k => whirligiglaw01_AddrBack.j0 k (tx s) (!(a == a) || (!(b == b)))) true
      rw [show (!(a == a) || (!(b == b))) = false by simp]
      exact J
    · have e : txP a b = [] := by unfold txP; rw [if_neg hm]
      rw [e, parL_none, Bool.eq_false_iff.mpr hm]
      exact Evt.ite_neg (by decide) (Evt.ite_neg (by decide) J)
end Go.Proofs.YtckffheolnmcnabDoor.Pure

end

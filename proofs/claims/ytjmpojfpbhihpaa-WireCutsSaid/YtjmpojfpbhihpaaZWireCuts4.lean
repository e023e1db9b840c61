/- Part of the proof of RowWireCuts: what it asks of functions, words and plain facts (put together by this session's own program, wip/tools/shake.py). -/
import Derived.Test.YtjmpojfpbhihpaaZWireCuts0
import Derived.Test.YtjmpojfpbhihpaaZWireCuts1
import Derived.Test.YtjmpojfpbhihpaaZWireCuts2
import Derived.Test.YtjmpojfpbhihpaaZWireCuts3
section
namespace Go.Proofs.Ytjmpojfpbhihpaa.P
open Go.RowKit Go.Proofs.YtjmpojfpbhihpaaW.PrintWords Go.Proofs.YtjmpojfpbhihpaaW.PrintLast Go.Proofs.YtjmpojfpbhihpaaW.PrintMore
attribute [local go_sem] max2_int min2_int max_two min_two max_three min_three max_four min_four   -- for this text's walks alone
set_option linter.unusedVariables false
set_option linter.unusedSimpArgs false

def wire_May.j0 : Nat → Bool → List (S25) → List (S25) → Int → Int → Int → List Int → List (S102) → Int → List Int → Option (Bool)
  | 0, _, _, _, _, _, _, _, _, _, _ => none
  | k + 1, x22, x242000, x242001, x242002, x242003, x242004, x242005, x242006, x242007, x242008 => if x22 = true then (some false) else (if (x242001.length : Int) = 0 then ((attr_Same.f k x242002 x242003 x242004 x242005 x242006 x242007 x242008 0 0 0 ([] : List Int) ([] : List (S102)) 0 ([] : List Int)).bind fun t244 => (some t244)) else ((attr_May.f k x242002 x242003 x242004 x242005 x242006 x242007 x242008).bind fun t245 => (some t245)))
def wire_May.f (k : Nat) (l0_0 : List (S25)) (l0_1 : List (S25)) (a0_2 : Int) (a0_3 : Int) (a0_4 : Int) (l0_5 : List Int) (l0_6 : List (S102)) (a0_7 : Int) (l0_8 : List Int) : Option (Bool) := (wire_rises.f k l0_0).bind fun t242 => (if t242 = true then ((wire_rises.f k l0_1).bind fun t243 => (if t243 = true then (wire_May.j0 k ((wrap64 ((l0_0.length : Int) + (l0_1.length : Int))) == 0) l0_0 l0_1 a0_2 a0_3 a0_4 l0_5 l0_6 a0_7 l0_8) else (wire_May.j0 k true l0_0 l0_1 a0_2 a0_3 a0_4 l0_5 l0_6 a0_7 l0_8))) else (wire_May.j0 k true l0_0 l0_1 a0_2 a0_3 a0_4 l0_5 l0_6 a0_7 l0_8))
set_option maxHeartbeats 8000000 in
set_option maxRecDepth 100000 in
theorem wire_May.calls (k : Nat) (am : Option Addr) (an : Nat) (ad : List (S25)) (aw : Option Addr) (ax : Nat) (ac : List (S25)) (ah : Int) (ai : Int) (aj : Int) (ao : Option Addr) (ap : Nat) (ae : List Int) (aq : Option Addr) (ar : Nat) (af : List (S102)) (ak : Int) (au : Option Addr) (av : Nat) (ag : List Int) (r : Bool) (w : World) (hr0_0 : Kd.C k25 w am ad.length ad) (hc0_0 : ad.length ≤ an) (hr0_1 : Kd.C k25 w aw ac.length ac) (hc0_1 : ac.length ≤ ax) (hr0_5 : Kd.C (Kd.int .i64) w ao ae.length ae) (hc0_5 : ae.length ≤ ap) (hr0_6 : Kd.C k102 w aq af.length af) (hc0_6 : af.length ≤ ar) (hr0_8 : Kd.C (Kd.int .i64) w au ag.length ag) (hc0_8 : ag.length ≤ av) (h : wire_May.f k ad ac ah ai aj ae af ak ag = some r) :
  Calls Try.prog 19 #[.agg #[.slice am ad.length an, .slice aw ac.length ax, .int .i64 ah, .int .i64 ai, .int .i64 aj, .slice ao ae.length ap, .slice aq af.length ar, .int .i64 ak, .slice au ag.length av]] w fun e w' => e = .returned (.bool r) ∧ Below w.heap.size w w' := by
 have hu47 := Try.underlying47
 have hu41 := Try.underlying41
 have HR0_0 := Aside0.mk hr0_0
 have HC0_0 := Aside0.mk hc0_0
 clear hr0_0 hc0_0
 have HR0_1 := Aside0.mk hr0_1
 have HC0_1 := Aside0.mk hc0_1
 clear hr0_1 hc0_1
 have HR0_5 := Aside0.mk hr0_5
 have HC0_5 := Aside0.mk hc0_5
 clear hr0_5 hc0_5
 have HR0_6 := Aside0.mk hr0_6
 have HC0_6 := Aside0.mk hc0_6
 clear hr0_6 hc0_6
 have HR0_8 := Aside0.mk hr0_8
 have HC0_8 := Aside0.mk hc0_8
 clear hr0_8 hc0_8
 have HB := Aside0.mk (Below.refl w.heap.size w)
 have H := h
 unfold wire_May.f at H
 clear h
 have HC2 := Aside0.mk H
 clear H
 go_enter Try.func19, Try.ntmps19
 go_upto_region 1 with (first | ((with_reducible refine gate_dst (N := 1) rfl ?_); (try (refine gate_guard (by rfl) ?_; dsimp only)); refine box_event ?hg (N := 1) ?hd (cs := #[.slice am ad.length an, .slice aw ac.length ax, .int .i64 ah, .int .i64 ai, .int .i64 aj, .slice ao ae.length ap, .slice aq af.length ar, .int .i64 ak, .slice au ag.length av]) (t := 47) ?hr ?_; (case hd => rfl); (case hg => rfl); (case hr => first | (go_simp; done) | (go_simp; rfl)); intro ab hg w3 hbox hb; have n0_ := Aside0.mk (below_step (by repeat (first | (with_reducible first | exact HB.out | apply below_alloc | apply pw_below_drewN | apply below_drew1) | exact HB.out)) hb); have n1_ := Aside0.mk (hbox); have n2_ := Aside0.mk ((by rw [hg]; exact (below_size (by repeat (first | (with_reducible first | exact HB.out | apply below_alloc | apply pw_below_drewN | apply below_drew1) | exact HB.out))) : w.heap.size ≤ ab)); have n3_ := Aside0.mk ((by rw [hg]; exact (below_size (by repeat (first | (with_reducible first | exact HB.out | apply below_alloc | apply pw_below_drewN | apply below_drew1) | exact HB.out))) : w.heap.size ≤ ab)); clear HB; have HB := n0_; have aa := n1_; have GW241 := n2_; have al := n3_; clear n0_ n1_ n2_ n3_; clear hb hbox hg))
 (try simp only [Act.put, List.setIfInBounds_toArray, List.set_cons_zero, List.set_cons_succ])
 go_cut [22] (fun v22 wc => ∃ (kq : Nat) (x22_1 : Bool), v22 = .bool x22_1 ∧ Aside0 (wire_May.j0 kq x22_1 ad ac ah ai aj ae af ak ag = some r) ∧ Aside0 (kq ≤ k) ∧ Aside0 (wc.heap[ab]? = some (.cells #[(.slice am ad.length an), (.slice aw ac.length ax), .int .i64 ah, .int .i64 ai, .int .i64 aj, (.slice ao ae.length ap), (.slice aq af.length ar), .int .i64 ak, (.slice au ag.length av)] 47 (0, 0))) ∧ Aside0 (Below w.heap.size w wc))
 case first =>
  have H := HC2.out
  clear HC2
  replace H := Option.bind_eq_some_iff.mp H
  obtain ⟨t242, A40, H⟩ := H
  (try dsimp only at H)
  have A4 := Aside0.mk A40
  clear A40
  by_cases c5 : t242 = true
  ·subst c5
   have H1 := H
   rw [if_pos rfl] at H1
   clear H
   have H := H1
   clear H1
   replace H := Option.bind_eq_some_iff.mp H
   obtain ⟨t243, A60, H⟩ := H
   (try dsimp only at H)
   have A6 := Aside0.mk A60
   clear A60
   by_cases c7 : t243 = true
   ·subst c7
    have H1 : (wire_May.j0 k ((wrap64 ((ad.length : Int) + (ac.length : Int))) == 0) ad ac ah ai aj ae af ak ag) = some r := by rw [if_pos rfl] at H; exact H
    clear H
    have H := H1
    clear H1
    have H' := Aside0.mk H
    clear H
    have hcz8_0 : w3.cell? ⟨ab, 0, none⟩ = some (.slice am ad.length an) := (blk_cell aa.out 0).trans rfl
    have hcz8_1 : w3.cell? ⟨ab, 1, none⟩ = some (.slice aw ac.length ax) := (blk_cell aa.out 1).trans rfl
    have hcz8_2 : w3.cell? ⟨ab, 2, none⟩ = some (.int .i64 ah) := (blk_cell aa.out 2).trans rfl
    have hcz8_3 : w3.cell? ⟨ab, 3, none⟩ = some (.int .i64 ai) := (blk_cell aa.out 3).trans rfl
    have hcz8_4 : w3.cell? ⟨ab, 4, none⟩ = some (.int .i64 aj) := (blk_cell aa.out 4).trans rfl
    have hcz8_5 : w3.cell? ⟨ab, 5, none⟩ = some (.slice ao ae.length ap) := (blk_cell aa.out 5).trans rfl
    have hcz8_6 : w3.cell? ⟨ab, 6, none⟩ = some (.slice aq af.length ar) := (blk_cell aa.out 6).trans rfl
    have hcz8_7 : w3.cell? ⟨ab, 7, none⟩ = some (.int .i64 ak) := (blk_cell aa.out 7).trans rfl
    have hcz8_8 : w3.cell? ⟨ab, 8, none⟩ = some (.slice au ag.length av) := (blk_cell aa.out 8).trans rfl
    have hfz8_0 := blk_frozen aa.out 0
    have hfz8_1 := blk_frozen aa.out 1
    have hfz8_2 := blk_frozen aa.out 2
    have hfz8_3 := blk_frozen aa.out 3
    have hfz8_4 := blk_frozen aa.out 4
    have hfz8_5 := blk_frozen aa.out 5
    have hfz8_6 := blk_frozen aa.out 6
    have hfz8_7 := blk_frozen aa.out 7
    have hfz8_8 := blk_frozen aa.out 8
    go_wp2_with (first | ((with_reducible refine gate_callee (f := 38) rfl ?_); refine goesL_ (some 5) rfl rfl Try.func38 (by kernel_rfl) rfl #[.slice am ad.length an] rfl (by (try simp only [List.map_toArray, List.map_cons, List.map_nil]); first | done | rfl) ?_; (with_reducible refine (wire_rises.calls k _ _ ad true _ ?side1 ?side2 A4.out).mono ?_); (case side1 => repeat (first | exact (Kd.C_below HR0_0.out HB.out) | (with_reducible refine Kd.C_alloc ?_ _) | (with_reducible refine Kd.C_drewN ?_ _) | (with_reducible refine Kd.C_drew ?_))); (case side2 => exact HC0_0.out); rintro e w9 ⟨rfl, hb⟩; refine ⟨_, rfl, ?_⟩; replace aa := Aside0.mk (blk_below (g := ab) (by (with_reducible repeat (first | refine blk_drewN ?_ _ | refine blk_drew ?_ | refine blk_alloc ?_ _)); exact aa.out) hb); replace HB := Aside0.mk (below_step (by repeat (first | (with_reducible first | exact HB.out | apply below_alloc | apply pw_below_drewN | apply below_drew1 | refine below_set ?_ al.out) | exact HB.out)) hb); (try clear hb); (try clear hb2); (try clear hk); (try clear hi); have hcz10_0 : w9.cell? ⟨ab, 0, none⟩ = some (.slice am ad.length an) := (blk_cell aa.out 0).trans rfl; have hcz10_1 : w9.cell? ⟨ab, 1, none⟩ = some (.slice aw ac.length ax) := (blk_cell aa.out 1).trans rfl; have hcz10_2 : w9.cell? ⟨ab, 2, none⟩ = some (.int .i64 ah) := (blk_cell aa.out 2).trans rfl; have hcz10_3 : w9.cell? ⟨ab, 3, none⟩ = some (.int .i64 ai) := (blk_cell aa.out 3).trans rfl; have hcz10_4 : w9.cell? ⟨ab, 4, none⟩ = some (.int .i64 aj) := (blk_cell aa.out 4).trans rfl; have hcz10_5 : w9.cell? ⟨ab, 5, none⟩ = some (.slice ao ae.length ap) := (blk_cell aa.out 5).trans rfl; have hcz10_6 : w9.cell? ⟨ab, 6, none⟩ = some (.slice aq af.length ar) := (blk_cell aa.out 6).trans rfl; have hcz10_7 : w9.cell? ⟨ab, 7, none⟩ = some (.int .i64 ak) := (blk_cell aa.out 7).trans rfl; have hcz10_8 : w9.cell? ⟨ab, 8, none⟩ = some (.slice au ag.length av) := (blk_cell aa.out 8).trans rfl; have hfz10_0 := blk_frozen aa.out 0; have hfz10_1 := blk_frozen aa.out 1; have hfz10_2 := blk_frozen aa.out 2; have hfz10_3 := blk_frozen aa.out 3; have hfz10_4 := blk_frozen aa.out 4; have hfz10_5 := blk_frozen aa.out 5; have hfz10_6 := blk_frozen aa.out 6; have hfz10_7 := blk_frozen aa.out 7; have hfz10_8 := blk_frozen aa.out 8) | (go_at_call 38; (with_reducible refine (wire_rises.calls k _ _ ac true _ ?side1 ?side2 A6.out).mono ?_); (case side1 => repeat (first | exact (Kd.C_below HR0_1.out HB.out) | (with_reducible refine Kd.C_alloc ?_ _) | (with_reducible refine Kd.C_drewN ?_ _) | (with_reducible refine Kd.C_drew ?_))); (case side2 => exact HC0_1.out); rintro e w11 ⟨rfl, hb⟩; replace aa := Aside0.mk (blk_below (g := ab) (by (with_reducible repeat (first | refine blk_drewN ?_ _ | refine blk_drew ?_ | refine blk_alloc ?_ _)); exact aa.out) hb); replace HB := Aside0.mk (below_step (by repeat (first | (with_reducible first | exact HB.out | apply below_alloc | apply pw_below_drewN | apply below_drew1 | refine below_set ?_ al.out) | exact HB.out)) hb); (try clear hb); (try clear hb2); (try clear hk); (try clear hi); have hcz12_0 : w11.cell? ⟨ab, 0, none⟩ = some (.slice am ad.length an) := (blk_cell aa.out 0).trans rfl; have hcz12_1 : w11.cell? ⟨ab, 1, none⟩ = some (.slice aw ac.length ax) := (blk_cell aa.out 1).trans rfl; have hcz12_2 : w11.cell? ⟨ab, 2, none⟩ = some (.int .i64 ah) := (blk_cell aa.out 2).trans rfl; have hcz12_3 : w11.cell? ⟨ab, 3, none⟩ = some (.int .i64 ai) := (blk_cell aa.out 3).trans rfl; have hcz12_4 : w11.cell? ⟨ab, 4, none⟩ = some (.int .i64 aj) := (blk_cell aa.out 4).trans rfl; have hcz12_5 : w11.cell? ⟨ab, 5, none⟩ = some (.slice ao ae.length ap) := (blk_cell aa.out 5).trans rfl; have hcz12_6 : w11.cell? ⟨ab, 6, none⟩ = some (.slice aq af.length ar) := (blk_cell aa.out 6).trans rfl; have hcz12_7 : w11.cell? ⟨ab, 7, none⟩ = some (.int .i64 ak) := (blk_cell aa.out 7).trans rfl; have hcz12_8 : w11.cell? ⟨ab, 8, none⟩ = some (.slice au ag.length av) := (blk_cell aa.out 8).trans rfl; have hfz12_0 := blk_frozen aa.out 0; have hfz12_1 := blk_frozen aa.out 1; have hfz12_2 := blk_frozen aa.out 2; have hfz12_3 := blk_frozen aa.out 3; have hfz12_4 := blk_frozen aa.out 4; have hfz12_5 := blk_frozen aa.out 5; have hfz12_6 := blk_frozen aa.out 6; have hfz12_7 := blk_frozen aa.out 7; have hfz12_8 := blk_frozen aa.out 8))
    go_meet
    case rel => exact ⟨_, (((wrap64 ((ad.length : Int) + (ac.length : Int))) == 0)), (by first | rfl | (simp; done) | (simp [*]; done)), H', ⟨by first | omega | exact Nat.le_refl _⟩, ⟨by (with_reducible repeat (first | refine blk_drewN ?_ _ | refine blk_drew ?_ | refine blk_alloc ?_ _)); exact aa.out⟩, ⟨by repeat (first | (with_reducible first | exact HB.out | apply below_alloc | apply pw_below_drewN | apply below_drew1 | refine below_set ?_ al.out) | exact HB.out)⟩⟩
   ·replace c7 := Bool.eq_false_iff.mpr c7
    subst c7
    have H1 : (wire_May.j0 k true ad ac ah ai aj ae af ak ag) = some r := by rw [if_neg (show ¬ (false = true) by decide)] at H; exact H
    clear H
    have H := H1
    clear H1
    have H' := Aside0.mk H
    clear H
    have hcz13_0 : w3.cell? ⟨ab, 0, none⟩ = some (.slice am ad.length an) := (blk_cell aa.out 0).trans rfl
    have hcz13_1 : w3.cell? ⟨ab, 1, none⟩ = some (.slice aw ac.length ax) := (blk_cell aa.out 1).trans rfl
    have hcz13_2 : w3.cell? ⟨ab, 2, none⟩ = some (.int .i64 ah) := (blk_cell aa.out 2).trans rfl
    have hcz13_3 : w3.cell? ⟨ab, 3, none⟩ = some (.int .i64 ai) := (blk_cell aa.out 3).trans rfl
    have hcz13_4 : w3.cell? ⟨ab, 4, none⟩ = some (.int .i64 aj) := (blk_cell aa.out 4).trans rfl
    have hcz13_5 : w3.cell? ⟨ab, 5, none⟩ = some (.slice ao ae.length ap) := (blk_cell aa.out 5).trans rfl
    have hcz13_6 : w3.cell? ⟨ab, 6, none⟩ = some (.slice aq af.length ar) := (blk_cell aa.out 6).trans rfl
    have hcz13_7 : w3.cell? ⟨ab, 7, none⟩ = some (.int .i64 ak) := (blk_cell aa.out 7).trans rfl
    have hcz13_8 : w3.cell? ⟨ab, 8, none⟩ = some (.slice au ag.length av) := (blk_cell aa.out 8).trans rfl
    have hfz13_0 := blk_frozen aa.out 0
    have hfz13_1 := blk_frozen aa.out 1
    have hfz13_2 := blk_frozen aa.out 2
    have hfz13_3 := blk_frozen aa.out 3
    have hfz13_4 := blk_frozen aa.out 4
    have hfz13_5 := blk_frozen aa.out 5
    have hfz13_6 := blk_frozen aa.out 6
    have hfz13_7 := blk_frozen aa.out 7
    have hfz13_8 := blk_frozen aa.out 8
    go_wp2_with (first | ((with_reducible refine gate_callee (f := 38) rfl ?_); refine goesL_ (some 5) rfl rfl Try.func38 (by kernel_rfl) rfl #[.slice am ad.length an] rfl (by (try simp only [List.map_toArray, List.map_cons, List.map_nil]); first | done | rfl) ?_; (with_reducible refine (wire_rises.calls k _ _ ad true _ ?side1 ?side2 A4.out).mono ?_); (case side1 => repeat (first | exact (Kd.C_below HR0_0.out HB.out) | (with_reducible refine Kd.C_alloc ?_ _) | (with_reducible refine Kd.C_drewN ?_ _) | (with_reducible refine Kd.C_drew ?_))); (case side2 => exact HC0_0.out); rintro e w14 ⟨rfl, hb⟩; refine ⟨_, rfl, ?_⟩; replace aa := Aside0.mk (blk_below (g := ab) (by (with_reducible repeat (first | refine blk_drewN ?_ _ | refine blk_drew ?_ | refine blk_alloc ?_ _)); exact aa.out) hb); replace HB := Aside0.mk (below_step (by repeat (first | (with_reducible first | exact HB.out | apply below_alloc | apply pw_below_drewN | apply below_drew1 | refine below_set ?_ al.out) | exact HB.out)) hb); (try clear hb); (try clear hb2); (try clear hk); (try clear hi); have hcz15_0 : w14.cell? ⟨ab, 0, none⟩ = some (.slice am ad.length an) := (blk_cell aa.out 0).trans rfl; have hcz15_1 : w14.cell? ⟨ab, 1, none⟩ = some (.slice aw ac.length ax) := (blk_cell aa.out 1).trans rfl; have hcz15_2 : w14.cell? ⟨ab, 2, none⟩ = some (.int .i64 ah) := (blk_cell aa.out 2).trans rfl; have hcz15_3 : w14.cell? ⟨ab, 3, none⟩ = some (.int .i64 ai) := (blk_cell aa.out 3).trans rfl; have hcz15_4 : w14.cell? ⟨ab, 4, none⟩ = some (.int .i64 aj) := (blk_cell aa.out 4).trans rfl; have hcz15_5 : w14.cell? ⟨ab, 5, none⟩ = some (.slice ao ae.length ap) := (blk_cell aa.out 5).trans rfl; have hcz15_6 : w14.cell? ⟨ab, 6, none⟩ = some (.slice aq af.length ar) := (blk_cell aa.out 6).trans rfl; have hcz15_7 : w14.cell? ⟨ab, 7, none⟩ = some (.int .i64 ak) := (blk_cell aa.out 7).trans rfl; have hcz15_8 : w14.cell? ⟨ab, 8, none⟩ = some (.slice au ag.length av) := (blk_cell aa.out 8).trans rfl; have hfz15_0 := blk_frozen aa.out 0; have hfz15_1 := blk_frozen aa.out 1; have hfz15_2 := blk_frozen aa.out 2; have hfz15_3 := blk_frozen aa.out 3; have hfz15_4 := blk_frozen aa.out 4; have hfz15_5 := blk_frozen aa.out 5; have hfz15_6 := blk_frozen aa.out 6; have hfz15_7 := blk_frozen aa.out 7; have hfz15_8 := blk_frozen aa.out 8) | (go_at_call 38; (with_reducible refine (wire_rises.calls k _ _ ac false _ ?side1 ?side2 A6.out).mono ?_); (case side1 => repeat (first | exact (Kd.C_below HR0_1.out HB.out) | (with_reducible refine Kd.C_alloc ?_ _) | (with_reducible refine Kd.C_drewN ?_ _) | (with_reducible refine Kd.C_drew ?_))); (case side2 => exact HC0_1.out); rintro e w16 ⟨rfl, hb⟩; replace aa := Aside0.mk (blk_below (g := ab) (by (with_reducible repeat (first | refine blk_drewN ?_ _ | refine blk_drew ?_ | refine blk_alloc ?_ _)); exact aa.out) hb); replace HB := Aside0.mk (below_step (by repeat (first | (with_reducible first | exact HB.out | apply below_alloc | apply pw_below_drewN | apply below_drew1 | refine below_set ?_ al.out) | exact HB.out)) hb); (try clear hb); (try clear hb2); (try clear hk); (try clear hi)))
    go_meet
    case rel => exact ⟨_, (true), (by first | rfl | (simp; done) | (simp [*]; done)), H', ⟨by first | omega | exact Nat.le_refl _⟩, ⟨by (with_reducible repeat (first | refine blk_drewN ?_ _ | refine blk_drew ?_ | refine blk_alloc ?_ _)); exact aa.out⟩, ⟨by repeat (first | (with_reducible first | exact HB.out | apply below_alloc | apply pw_below_drewN | apply below_drew1 | refine below_set ?_ al.out) | exact HB.out)⟩⟩
  ·replace c5 := Bool.eq_false_iff.mpr c5
   subst c5
   have H1 : (wire_May.j0 k true ad ac ah ai aj ae af ak ag) = some r := by rw [if_neg (show ¬ (false = true) by decide)] at H; exact H
   clear H
   have H := H1
   clear H1
   have H' := Aside0.mk H
   clear H
   have hcz17_0 : w3.cell? ⟨ab, 0, none⟩ = some (.slice am ad.length an) := (blk_cell aa.out 0).trans rfl
   have hcz17_1 : w3.cell? ⟨ab, 1, none⟩ = some (.slice aw ac.length ax) := (blk_cell aa.out 1).trans rfl
   have hcz17_2 : w3.cell? ⟨ab, 2, none⟩ = some (.int .i64 ah) := (blk_cell aa.out 2).trans rfl
   have hcz17_3 : w3.cell? ⟨ab, 3, none⟩ = some (.int .i64 ai) := (blk_cell aa.out 3).trans rfl
   have hcz17_4 : w3.cell? ⟨ab, 4, none⟩ = some (.int .i64 aj) := (blk_cell aa.out 4).trans rfl
   have hcz17_5 : w3.cell? ⟨ab, 5, none⟩ = some (.slice ao ae.length ap) := (blk_cell aa.out 5).trans rfl
   have hcz17_6 : w3.cell? ⟨ab, 6, none⟩ = some (.slice aq af.length ar) := (blk_cell aa.out 6).trans rfl
   have hcz17_7 : w3.cell? ⟨ab, 7, none⟩ = some (.int .i64 ak) := (blk_cell aa.out 7).trans rfl
   have hcz17_8 : w3.cell? ⟨ab, 8, none⟩ = some (.slice au ag.length av) := (blk_cell aa.out 8).trans rfl
   have hfz17_0 := blk_frozen aa.out 0
   have hfz17_1 := blk_frozen aa.out 1
   have hfz17_2 := blk_frozen aa.out 2
   have hfz17_3 := blk_frozen aa.out 3
   have hfz17_4 := blk_frozen aa.out 4
   have hfz17_5 := blk_frozen aa.out 5
   have hfz17_6 := blk_frozen aa.out 6
   have hfz17_7 := blk_frozen aa.out 7
   have hfz17_8 := blk_frozen aa.out 8
   go_wp2_with (first | ((with_reducible refine gate_callee (f := 38) rfl ?_); refine goesL_ (some 5) rfl rfl Try.func38 (by kernel_rfl) rfl #[.slice am ad.length an] rfl (by (try simp only [List.map_toArray, List.map_cons, List.map_nil]); first | done | rfl) ?_; (with_reducible refine (wire_rises.calls k _ _ ad false _ ?side1 ?side2 A4.out).mono ?_); (case side1 => repeat (first | exact (Kd.C_below HR0_0.out HB.out) | (with_reducible refine Kd.C_alloc ?_ _) | (with_reducible refine Kd.C_drewN ?_ _) | (with_reducible refine Kd.C_drew ?_))); (case side2 => exact HC0_0.out); rintro e w18 ⟨rfl, hb⟩; refine ⟨_, rfl, ?_⟩; replace aa := Aside0.mk (blk_below (g := ab) (by (with_reducible repeat (first | refine blk_drewN ?_ _ | refine blk_drew ?_ | refine blk_alloc ?_ _)); exact aa.out) hb); replace HB := Aside0.mk (below_step (by repeat (first | (with_reducible first | exact HB.out | apply below_alloc | apply pw_below_drewN | apply below_drew1 | refine below_set ?_ al.out) | exact HB.out)) hb); (try clear hb); (try clear hb2); (try clear hk); (try clear hi)))
   go_meet
   case rel => exact ⟨_, (true), (by first | rfl | (simp; done) | (simp [*]; done)), H', ⟨by first | omega | exact Nat.le_refl _⟩, ⟨by (with_reducible repeat (first | refine blk_drewN ?_ _ | refine blk_drew ?_ | refine blk_alloc ?_ _)); exact aa.out⟩, ⟨by repeat (first | (with_reducible first | exact HB.out | apply below_alloc | apply pw_below_drewN | apply below_drew1 | refine below_set ?_ al.out) | exact HB.out)⟩⟩
 case rest =>
  clear HC2
  try clear c1
  try clear p2
  try clear c3
  try clear c5
  try clear p6
  try clear c7
  try clear hcz10_0
  try clear hcz10_1
  try clear hcz10_2
  try clear hcz10_3
  try clear hcz10_4
  try clear hcz10_5
  try clear hcz10_6
  try clear hcz10_7
  try clear hcz10_8
  try clear hcz12_0
  try clear hcz12_1
  try clear hcz12_2
  try clear hcz12_3
  try clear hcz12_4
  try clear hcz12_5
  try clear hcz12_6
  try clear hcz12_7
  try clear hcz12_8
  try clear hcz13_0
  try clear hcz13_1
  try clear hcz13_2
  try clear hcz13_3
  try clear hcz13_4
  try clear hcz13_5
  try clear hcz13_6
  try clear hcz13_7
  try clear hcz13_8
  try clear hcz15_0
  try clear hcz15_1
  try clear hcz15_2
  try clear hcz15_3
  try clear hcz15_4
  try clear hcz15_5
  try clear hcz15_6
  try clear hcz15_7
  try clear hcz15_8
  try clear hcz17_0
  try clear hcz17_1
  try clear hcz17_2
  try clear hcz17_3
  try clear hcz17_4
  try clear hcz17_5
  try clear hcz17_6
  try clear hcz17_7
  try clear hcz17_8
  try clear hcz8_0
  try clear hcz8_1
  try clear hcz8_2
  try clear hcz8_3
  try clear hcz8_4
  try clear hcz8_5
  try clear hcz8_6
  try clear hcz8_7
  try clear hcz8_8
  try clear hfz10_0
  try clear hfz10_1
  try clear hfz10_2
  try clear hfz10_3
  try clear hfz10_4
  try clear hfz10_5
  try clear hfz10_6
  try clear hfz10_7
  try clear hfz10_8
  try clear hfz12_0
  try clear hfz12_1
  try clear hfz12_2
  try clear hfz12_3
  try clear hfz12_4
  try clear hfz12_5
  try clear hfz12_6
  try clear hfz12_7
  try clear hfz12_8
  try clear hfz13_0
  try clear hfz13_1
  try clear hfz13_2
  try clear hfz13_3
  try clear hfz13_4
  try clear hfz13_5
  try clear hfz13_6
  try clear hfz13_7
  try clear hfz13_8
  try clear hfz15_0
  try clear hfz15_1
  try clear hfz15_2
  try clear hfz15_3
  try clear hfz15_4
  try clear hfz15_5
  try clear hfz15_6
  try clear hfz15_7
  try clear hfz15_8
  try clear hfz17_0
  try clear hfz17_1
  try clear hfz17_2
  try clear hfz17_3
  try clear hfz17_4
  try clear hfz17_5
  try clear hfz17_6
  try clear hfz17_7
  try clear hfz17_8
  try clear hfz8_0
  try clear hfz8_1
  try clear hfz8_2
  try clear hfz8_3
  try clear hfz8_4
  try clear hfz8_5
  try clear hfz8_6
  try clear hfz8_7
  try clear hfz8_8
  obtain ⟨kq, x22_1, rfl, HA, HJ1, aa, HB⟩ := hcut
  cases kq with
  | zero => exact absurd HA.out (by simp [wire_May.j0])
  | succ kj1 =>
   have H := HA.out
   clear HA
   simp only [wire_May.j0] at H
   by_cases c19 : x22_1 = true
   ·subst c19
    have H1 : (some false) = some r := by rw [if_pos rfl] at H; exact H
    clear H
    have H := H1
    clear H1
    obtain rfl := Option.some.inj H
    go_wp2
    go_ret
    exact ⟨by first | rfl | (simp [errW_none, errW_some] <;> rfl) | (simp [*, errW_none, errW_some] <;> rfl), by repeat (first | (with_reducible first | exact HB.out | apply below_alloc | apply pw_below_drewN | apply below_drew1 | refine below_set ?_ al.out) | exact HB.out)⟩
   ·replace c19 := Bool.eq_false_iff.mpr c19
    subst c19
    have H1 := H
    rw [if_neg (show ¬ (false = true) by decide)] at H1
    clear H
    have H := H1
    clear H1
    by_cases ay : (ac.length : Int) = 0
    ·rw [if_pos ay] at H
     have c20b0 : ((ac.length : Int) == 0) = true := beq_iff_eq.mpr ay
     have c20b1 : ((ac.length : Int) != 0) = false := bne_eq_false_iff_eq.mpr ay
     clear ay
     replace H := Option.bind_eq_some_iff.mp H
     obtain ⟨t244, A210, H⟩ := H
     replace H : (some t244) = some r := H
     have A21 := Aside0.mk A210
     clear A210
     obtain rfl := Option.some.inj H
     have hcz22_0 : wc.cell? ⟨ab, 0, none⟩ = some (.slice am ad.length an) := (blk_cell aa.out 0).trans rfl
     have hcz22_1 : wc.cell? ⟨ab, 1, none⟩ = some (.slice aw ac.length ax) := (blk_cell aa.out 1).trans rfl
     have hcz22_2 : wc.cell? ⟨ab, 2, none⟩ = some (.int .i64 ah) := (blk_cell aa.out 2).trans rfl
     have hcz22_3 : wc.cell? ⟨ab, 3, none⟩ = some (.int .i64 ai) := (blk_cell aa.out 3).trans rfl
     have hcz22_4 : wc.cell? ⟨ab, 4, none⟩ = some (.int .i64 aj) := (blk_cell aa.out 4).trans rfl
     have hcz22_5 : wc.cell? ⟨ab, 5, none⟩ = some (.slice ao ae.length ap) := (blk_cell aa.out 5).trans rfl
     have hcz22_6 : wc.cell? ⟨ab, 6, none⟩ = some (.slice aq af.length ar) := (blk_cell aa.out 6).trans rfl
     have hcz22_7 : wc.cell? ⟨ab, 7, none⟩ = some (.int .i64 ak) := (blk_cell aa.out 7).trans rfl
     have hcz22_8 : wc.cell? ⟨ab, 8, none⟩ = some (.slice au ag.length av) := (blk_cell aa.out 8).trans rfl
     have hfz22_0 := blk_frozen aa.out 0
     have hfz22_1 := blk_frozen aa.out 1
     have hfz22_2 := blk_frozen aa.out 2
     have hfz22_3 := blk_frozen aa.out 3
     have hfz22_4 := blk_frozen aa.out 4
     have hfz22_5 := blk_frozen aa.out 5
     have hfz22_6 := blk_frozen aa.out 6
     have hfz22_7 := blk_frozen aa.out 7
     have hfz22_8 := blk_frozen aa.out 8
     go_wp2_with (first | ((with_reducible refine gate_callee (f := 39) rfl ?_); refine goesL_ (some 30) rfl rfl Try.func39 (by kernel_rfl) rfl #[.agg #[.int .i64 ah, .int .i64 ai, .int .i64 aj, .slice ao ae.length ap, .slice aq af.length ar, .int .i64 ak, .slice au ag.length av], .agg #[.int .i64 0, .int .i64 0, .int .i64 0, .slice none 0 0, .slice none 0 0, .int .i64 0, .slice none 0 0]] rfl (by (try simp only [List.map_toArray, List.map_cons, List.map_nil]); first | done | rfl) ?_; (refine (attr_Same.calls kj1 ah ai aj _ _ ae _ _ af ak _ _ ag 0 0 0 _ _ ([] : List Int) _ _ ([] : List (S102)) 0 _ _ ([] : List Int) t244 _ ?side1 ?side2 ?side3 ?side4 ?side5 ?side6 ?side7 ?side8 ?side9 ?side10 ?side11 ?side12 A21.out).mono ?_); (case side1 | side3 | side5 => repeat (first | exact (Kd.C_below HR0_5.out HB.out) | exact (Kd.C_below HR0_6.out HB.out) | exact (Kd.C_below HR0_8.out HB.out) | (with_reducible refine Kd.C_alloc ?_ _) | (with_reducible refine Kd.C_drewN ?_ _) | (with_reducible refine Kd.C_drew ?_))); (case side2 | side4 | side6 | side7 | side8 | side9 | side10 | side11 | side12 => first | exact HC0_5.out | exact HC0_6.out | exact HC0_8.out | exact Kd.C_nil _ _ | exact Nat.le_refl _); rintro e w23 ⟨rfl, hb⟩; refine ⟨_, rfl, ?_⟩; replace aa := Aside0.mk (blk_below (g := ab) (by (with_reducible repeat (first | refine blk_drewN ?_ _ | refine blk_drew ?_ | refine blk_alloc ?_ _)); exact aa.out) hb); replace HB := Aside0.mk (below_step (by repeat (first | (with_reducible first | exact HB.out | apply below_alloc | apply pw_below_drewN | apply below_drew1 | refine below_set ?_ al.out) | exact HB.out)) hb); (try clear hb); (try clear hb2); (try clear hk); (try clear hi)))
     go_ret
     exact ⟨by first | rfl | (simp [errW_none, errW_some] <;> rfl) | (simp [*, errW_none, errW_some] <;> rfl), by repeat (first | (with_reducible first | exact HB.out | apply below_alloc | apply pw_below_drewN | apply below_drew1 | refine below_set ?_ al.out) | exact HB.out)⟩
    ·rw [if_neg ay] at H
     have c20b0 : ((ac.length : Int) == 0) = false := beq_eq_false_iff_ne.mpr ay
     have c20b1 : ((ac.length : Int) != 0) = true := bne_iff_ne.mpr ay
     have c20b2 : ¬ (ac = []) := fun h_ => ay (by rw [h_]; rfl)
     replace H := Option.bind_eq_some_iff.mp H
     obtain ⟨t245, A240, H⟩ := H
     replace H : (some t245) = some r := H
     have A24 := Aside0.mk A240
     clear A240
     obtain rfl := Option.some.inj H
     have hcz25_0 : wc.cell? ⟨ab, 0, none⟩ = some (.slice am ad.length an) := (blk_cell aa.out 0).trans rfl
     have hcz25_1 : wc.cell? ⟨ab, 1, none⟩ = some (.slice aw ac.length ax) := (blk_cell aa.out 1).trans rfl
     have hcz25_2 : wc.cell? ⟨ab, 2, none⟩ = some (.int .i64 ah) := (blk_cell aa.out 2).trans rfl
     have hcz25_3 : wc.cell? ⟨ab, 3, none⟩ = some (.int .i64 ai) := (blk_cell aa.out 3).trans rfl
     have hcz25_4 : wc.cell? ⟨ab, 4, none⟩ = some (.int .i64 aj) := (blk_cell aa.out 4).trans rfl
     have hcz25_5 : wc.cell? ⟨ab, 5, none⟩ = some (.slice ao ae.length ap) := (blk_cell aa.out 5).trans rfl
     have hcz25_6 : wc.cell? ⟨ab, 6, none⟩ = some (.slice aq af.length ar) := (blk_cell aa.out 6).trans rfl
     have hcz25_7 : wc.cell? ⟨ab, 7, none⟩ = some (.int .i64 ak) := (blk_cell aa.out 7).trans rfl
     have hcz25_8 : wc.cell? ⟨ab, 8, none⟩ = some (.slice au ag.length av) := (blk_cell aa.out 8).trans rfl
     have hfz25_0 := blk_frozen aa.out 0
     have hfz25_1 := blk_frozen aa.out 1
     have hfz25_2 := blk_frozen aa.out 2
     have hfz25_3 := blk_frozen aa.out 3
     have hfz25_4 := blk_frozen aa.out 4
     have hfz25_5 := blk_frozen aa.out 5
     have hfz25_6 := blk_frozen aa.out 6
     have hfz25_7 := blk_frozen aa.out 7
     have hfz25_8 := blk_frozen aa.out 8
     go_wp2_with (first | ((with_reducible refine gate_callee (f := 40) rfl ?_); refine goesL_ (some 33) rfl rfl Try.func40 (by kernel_rfl) rfl #[.agg #[.int .i64 ah, .int .i64 ai, .int .i64 aj, .slice ao ae.length ap, .slice aq af.length ar, .int .i64 ak, .slice au ag.length av]] rfl (by (try simp only [List.map_toArray, List.map_cons, List.map_nil]); first | done | rfl) ?_; (with_reducible refine (attr_May.calls kj1 ah ai aj _ _ ae _ _ af ak _ _ ag t245 _ ?side1 ?side2 ?side3 ?side4 ?side5 ?side6 A24.out).mono ?_); (case side1 | side3 | side5 => repeat (first | exact (Kd.C_below HR0_5.out HB.out) | exact (Kd.C_below HR0_6.out HB.out) | exact (Kd.C_below HR0_8.out HB.out) | (with_reducible refine Kd.C_alloc ?_ _) | (with_reducible refine Kd.C_drewN ?_ _) | (with_reducible refine Kd.C_drew ?_))); (case side2 | side4 | side6 => first | exact HC0_5.out | exact HC0_6.out | exact HC0_8.out); rintro e w26 ⟨rfl, hb⟩; refine ⟨_, rfl, ?_⟩; replace aa := Aside0.mk (blk_below (g := ab) (by (with_reducible repeat (first | refine blk_drewN ?_ _ | refine blk_drew ?_ | refine blk_alloc ?_ _)); exact aa.out) hb); replace HB := Aside0.mk (below_step (by repeat (first | (with_reducible first | exact HB.out | apply below_alloc | apply pw_below_drewN | apply below_drew1 | refine below_set ?_ al.out) | exact HB.out)) hb); (try clear hb); (try clear hb2); (try clear hk); (try clear hi)))
     go_ret
     exact ⟨by first | rfl | (simp [errW_none, errW_some] <;> rfl) | (simp [*, errW_none, errW_some] <;> rfl), by repeat (first | (with_reducible first | exact HB.out | apply below_alloc | apply pw_below_drewN | apply below_drew1 | refine below_set ?_ al.out) | exact HB.out)⟩

def wire_prefixes.l0 : Nat → List Int → List (S25) → Int → Int → Option (List Int)
  | 0, _, _, _, _ => none
  | k + 1, x3, x6, x7, x8 => if x8 < x7 then (if 0 ≤ x8 then (if x8 < (x6.length : Int) then ((wire_Prefix.f k x3 ((rd_T25 x6 x8).f0) ((rd_T25 x6 x8).f1)).bind fun t248 => (wire_prefixes.l0 k t248 x6 x7 (wrap64 (x8 + 1)))) else (none)) else (none)) else (some x3)
def wire_prefixes.f (k : Nat) (l0 : List (S25)) : Option (List Int) := wire_prefixes.l0 k ([] : List Int) l0 (l0.length : Int) 0
set_option maxHeartbeats 8000000 in
set_option maxRecDepth 100000 in
theorem wire_prefixes.calls (k : Nat) (A0 : Option Addr) (c0 : Nat) (l0 : List (S25)) (r : List Int) (w : World) (hr0 : Kd.C k25 w A0 l0.length l0) (hc0 : l0.length ≤ c0) (h : wire_prefixes.f k l0 = some r) :
    Calls Try.prog 35 #[.slice A0 l0.length c0] w fun e w' => ∃ v0_ : Value, e = .returned (v0_) ∧ Kd.R (Kd.int .u8) 5 w' w.heap.size (fun _ => True) v0_ r ∧ Below w.heap.size w w' := by
  have hu25 := Try.underlying25
  have HR0 := Aside0.mk hr0
  have HC0 := Aside0.mk hc0
  clear hr0 hc0
  have HB := Aside0.mk (Below.refl w.heap.size w)
  have H : (wire_prefixes.l0 k ([] : List Int) l0 (l0.length : Int) 0) = some r := h
  clear h
  have H' := Aside0.mk H
  clear H
  go_enter Try.func35, Try.ntmps35
  go_wp2
  go_loopg [3, 8] k (fun kq v3 v8 w' => ∃ (x3_1 : List Int) (x8_1 : Int), v8 = .int .i64 x8_1 ∧ Aside0 (wire_prefixes.l0 kq x3_1 l0 (l0.length : Int) x8_1 = some r) ∧ Aside0 (kq ≤ k) ∧ Aside0 (Kd.R (Kd.int .u8) 5 w' w.heap.size (fun _ => True) v3 x3_1) ∧ Aside0 (Below w.heap.size w w'))
  case atStart => exact ⟨(([] : List Int)), (0), (by first | rfl | (simp; done) | (simp [*]; done)), H', ⟨Nat.le_refl _⟩, ⟨by first | exact Kd.R_nil _ _ _ _ _ | exact Kd.N_nil _ _ _ _ _ | exact Kd.V_nil _ _ _ _ _ | exact Kd.Q_nil _ _ _ _ _ | exact Kd.S_nil _ _ _ _ _⟩, ⟨by repeat (first | (with_reducible first | exact HB.out | apply below_alloc | apply pw_below_drewN | apply below_drew1) | exact HB.out)⟩⟩
  case round =>
    clear H'
    obtain ⟨x3_1, x8_1, rfl, HA, HK1, HO_3, HB⟩ := hrel
    cases gk with
    | zero => exact absurd HA.out (by simp [wire_prefixes.l0])
    | succ k1 =>
      have H := HA.out
      clear HA
      simp only [wire_prefixes.l0] at H
      by_cases c2 : x8_1 < (l0.length : Int)
      · rw [if_pos c2] at H
        have c2b0 : decide (x8_1 < (l0.length : Int)) = true := decide_eq_true c2
        clear c2
        by_cases c3 : 0 ≤ x8_1
        · rw [if_pos c3] at H
          have c3b0 : decide (0 ≤ x8_1) = true := decide_eq_true c3
          clear c3
          by_cases c4 : x8_1 < (l0.length : Int)
          · rw [if_pos c4] at H
            have c4b0 : decide (x8_1 < (l0.length : Int)) = true := decide_eq_true c4
            clear c4
            replace H := Option.bind_eq_some_iff.mp H
            obtain ⟨t248, A50, H⟩ := H
            replace H : (wire_prefixes.l0 k1 t248 l0 (l0.length : Int) (wrap64 (x8_1 + 1))) = some r := H
            have A5 := Aside0.mk A50
            clear A50
            have H' := Aside0.mk H
            clear H
            have p246 : 0 ≤ (x8_1 : Int) := of_decide_eq_true (by first | (with_reducible assumption) | assumption)
            have q246 : x8_1 < (l0.length : Int) := of_decide_eq_true (by first | (with_reducible assumption) | assumption)
            obtain ⟨ad246, e246, hx246_0, hx246_1⟩ := at_T25 HR0.out x8_1 p246 q246
            (try (injection e246 with e246; replace e246 := e246.symm; subst e246; have e246 : True := trivial))
            cases e246
            replace hx246_0 := (HB.out.cell (World.block_lt_of_cell? w _ hx246_0)).trans hx246_0
            replace hx246_1 := (HB.out.cell (World.block_lt_of_cell? w _ hx246_1)).trans hx246_1
            replace p246 := eq_true p246
            replace q246 := eq_true q246
            go_wp2_with (first | ((with_reducible refine gate_dst (N := 5) rfl ?_); refine box_event ?hg (N := 5) ?hd (cs := #[.int .u32 0, .int .i64 0]) (t := 25) ?hr ?_; (case hd => rfl); (case hg => rfl); (case hr => first | (go_simp; done) | (go_simp; rfl)); intro gb247 hg w6 hbox hb; have n0_ := Aside0.mk (Kd.R_below (by (with_reducible repeat (first | apply Kd.R_alloc | apply Kd.R_drewN | apply Kd.R_drew)); exact HO_3.out) hb); have n1_ := Aside0.mk (below_step (by repeat (first | (with_reducible first | exact HB.out | apply below_alloc | apply pw_below_drewN | apply below_drew1) | exact HB.out)) hb); have n2_ := Aside0.mk (hbox); have n3_ := Aside0.mk ((by rw [hg]; exact (below_size (by repeat (first | (with_reducible first | exact HB.out | apply below_alloc | apply pw_below_drewN | apply below_drew1) | exact HB.out))) : w.heap.size ≤ gb247)); have n4_ := Aside0.mk ((by rw [hg]; exact (below_size (by repeat (first | (with_reducible first | exact HB.out | apply below_alloc | apply pw_below_drewN | apply below_drew1) | exact HB.out))) : w.heap.size ≤ gb247)); clear HO_3; clear HB; have HO_3 := n0_; have HB := n1_; have BK247 := n2_; have GW247 := n3_; have GE247 := n4_; clear n0_ n1_ n2_ n3_ n4_; clear hb hbox hg; have hcz7_0 : w6.cell? ⟨gb247, 0, none⟩ = some (.int .u32 0) := (blk_cell BK247.out 0).trans rfl; have hcz7_1 : w6.cell? ⟨gb247, 1, none⟩ = some (.int .i64 0) := (blk_cell BK247.out 1).trans rfl; have hfz7_0 := blk_frozen BK247.out 0; have hfz7_1 := blk_frozen BK247.out 1; obtain ⟨Ao8, co8, eo8⟩ := Kd.R_slice HO_3.out; subst eo8) | ((with_reducible refine gate_callee (f := 12) rfl ?_); refine goesL_ (some 14) rfl rfl Try.func12 (by kernel_rfl) rfl #[.slice Ao8 x3_1.length co8, .agg #[.int .u32 ((rd_T25 l0 x8_1).f0), .int .i64 ((rd_T25 l0 x8_1).f1)]] rfl (by (try simp only [List.map_toArray, List.map_cons, List.map_nil]); first | done | rfl | (simp only [List.length_drop, List.length_take]; rfl)) ?_; (with_reducible refine (wire_Prefix.calls k1 _ _ x3_1 ((rd_T25 l0 x8_1).f0) ((rd_T25 l0 x8_1).f1) t248 _ ?side1 ?side2 A5.out).mono ?_); (case side1 => refine (Kd.R_reads' (e := 5) (base := w.heap.size) (ok := fun k_ => True) (n := x3_1.length) (c := co8) ?_).2.2; exact (by (with_reducible repeat (first | apply Kd.R_alloc | apply Kd.R_drewN | apply Kd.R_drew)); exact (Kd.R_mono (Kd.R_far (p := ⟨gb247, 1, none⟩) (Kd.R_far (p := ⟨gb247, 0, none⟩) (Kd.R_types HO_3.out BK247.out (by decide)) (fun _ hk => hk.2) (.int .u32 ((rd_T25 l0 x8_1).f0))) (fun _ hk => hk.2) (.int .i64 ((rd_T25 l0 x8_1).f1))) (fun _ h_ => h_.1)))); (case side2 => exact (Kd.R_reads' HO_3.out).2.1); rintro e w9 ⟨v249, rfl, ho0, hb⟩; refine ⟨_, rfl, ?_⟩; have n0_ := Aside0.mk (Kd.R_elder' (by (with_reducible repeat (first | apply Kd.R_alloc | apply Kd.R_drewN | apply Kd.R_drew)); exact (Kd.R_mono (Kd.R_far (p := ⟨gb247, 1, none⟩) (Kd.R_far (p := ⟨gb247, 0, none⟩) (Kd.R_types HO_3.out BK247.out (by decide)) (fun _ hk => hk.2) (.int .u32 ((rd_T25 l0 x8_1).f0))) (fun _ hk => hk.2) (.int .i64 ((rd_T25 l0 x8_1).f1))) (fun _ h_ => h_.1))) (Kd.R_base ho0) hb); have n1_ := Aside0.mk (Kd.R_lower (Kd.R_new' ho0 (Kd.R_lt (by (with_reducible repeat (first | apply Kd.R_alloc | apply Kd.R_drewN | apply Kd.R_drew)); exact (Kd.R_mono (Kd.R_far (p := ⟨gb247, 1, none⟩) (Kd.R_far (p := ⟨gb247, 0, none⟩) (Kd.R_types HO_3.out BK247.out (by decide)) (fun _ hk => hk.2) (.int .u32 ((rd_T25 l0 x8_1).f0))) (fun _ hk => hk.2) (.int .i64 ((rd_T25 l0 x8_1).f1))) (fun _ h_ => h_.1))))) (below_size (by repeat (first | (with_reducible first | exact HB.out | apply below_alloc | apply pw_below_drewN | apply below_drew1 | refine below_set ?_ GE247.out) | exact HB.out)))); have n2_ := Aside0.mk (blk_below (g := gb247) (o := .cells #[.int .u32 ((rd_T25 l0 x8_1).f0), .int .i64 ((rd_T25 l0 x8_1).f1)] 25 (0, 0)) (by (with_reducible repeat (first | refine blk_drewN ?_ _ | refine blk_drew ?_ | refine blk_alloc ?_ _)); refine blk_put (cs := #[.int .u32 ((rd_T25 l0 x8_1).f0), .int .i64 0]) ?_ 1 _ (by first | rfl | (simp; done) | (simp; omega)); (with_reducible repeat (first | refine blk_drewN ?_ _ | refine blk_drew ?_ | refine blk_alloc ?_ _)); refine blk_put (cs := #[.int .u32 0, .int .i64 0]) ?_ 0 _ (by first | rfl | (simp; done) | (simp; omega)); (with_reducible repeat (first | refine blk_drewN ?_ _ | refine blk_drew ?_ | refine blk_alloc ?_ _)); exact BK247.out) hb); have n3_ := Aside0.mk (below_step (by repeat (first | (with_reducible first | exact HB.out | apply below_alloc | apply pw_below_drewN | apply below_drew1 | refine below_set ?_ GE247.out) | exact HB.out)) hb); clear HO_3; clear BK247; clear HB; have HO_3 := n0_; have HO250 := n1_; have BK247 := n2_; have HB := n3_; clear n0_ n1_ n2_ n3_; (try clear hb); (try clear hb2); (try clear hk); (try clear hi); (try clear ho0)))
            go_roundg k1
            case measure => have := HK1.out; omega
            case rel => exact ⟨(t248), (wrap64 (x8_1 + 1)), (by first | rfl | (simp; done) | (simp [*]; done)), H', ⟨by have := HK1.out; omega⟩, ⟨by (with_reducible repeat (first | apply Kd.R_alloc | apply Kd.R_drewN | apply Kd.R_drew)); exact Kd.R_mono HO250.out (fun _ hk => trivial)⟩, ⟨by repeat (first | (with_reducible first | exact HB.out | apply below_alloc | apply pw_below_drewN | apply below_drew1 | refine below_set ?_ GE247.out) | exact HB.out)⟩⟩
          · rw [if_neg c4] at H
            exact absurd H (by simp)
        · rw [if_neg c3] at H
          exact absurd H (by simp)
      · rw [if_neg c2] at H
        have c2b0 : decide (x8_1 < (l0.length : Int)) = false := decide_eq_false c2
        clear c2
        obtain rfl := Option.some.inj H
        go_wp2
        go_ret
        exact ⟨_, by first | rfl | (simp [errW_none, errW_some] <;> rfl) | (simp [*, errW_none, errW_some] <;> rfl), by (with_reducible repeat (first | apply Kd.R_alloc | apply Kd.R_drewN | apply Kd.R_drew)); exact HO_3.out, by repeat (first | (with_reducible first | exact HB.out | apply below_alloc | apply pw_below_drewN | apply below_drew1) | exact HB.out)⟩

def wire_one.f (l0 : List Int) (a1 : Int) (a2 : Int) (l3 : List Int) : Option (List Int) := (some (([a1, a2, ((l3.length : Int)) % 256] : List Int) : List Int)).bind fun y251 => (if l0.length + y251.length < 140737488355328 then ((some (l0 ++ y251 : List Int)).bind fun y254 => (if y254.length + l3.length < 140737488355328 then (some (y254 ++ l3)) else (none))) else (none))
set_option maxHeartbeats 8000000 in
set_option maxRecDepth 100000 in
theorem wire_one.calls (P0_ : Nat → Prop) (u9000_ : Value) (l0 : List Int) (a1 : Int) (a2 : Int) (A3 : Option Addr) (c3 : Nat) (l3 : List Int) (r : List Int) (w0 w : World) (hB : Below w0.heap.size w0 w) (ho0 : Kd.R (Kd.int .u8) 5 w w0.heap.size P0_ u9000_ l0) (hr3 : ∀ W_, Kept w W_ (fun k_ => P0_ k_) → Kd.C (Kd.int .u8) W_ A3 l3.length l3) (hc3 : l3.length ≤ c3) (h : wire_one.f l0 a1 a2 l3 = some r) :
    Calls Try.prog 63 #[u9000_, .int .u8 a1, .int .u8 a2, .slice A3 l3.length c3] w fun e w' => ∃ v0_ : Value, e = .returned (v0_) ∧ Kd.R (Kd.int .u8) 5 w' w0.heap.size (fun k_ => (P0_ k_ ∨ w.heap.size ≤ k_)) v0_ r ∧ Below w0.heap.size w0 w' ∧ Kept w w' (fun k_ => P0_ k_) := by
  have HO0 := Aside0.mk (show Kd.R (Kd.int .u8) 5 w w0.heap.size (fun k_ => (P0_ k_ ∨ w.heap.size ≤ k_)) u9000_ l0 from Kd.R_mono ho0 (fun k_ hk => (.inl hk)))
  have HR3 := Aside0.mk hr3
  have HC3 := Aside0.mk hc3
  clear hr3 hc3
  have HK := Aside0.mk (Kept.refl w (fun k_ => P0_ k_))
  have HW0 := Aside0.mk hB.size
  have HB := Aside0.mk hB
  clear hB
  have H : ((some (([a1, a2, ((l3.length : Int)) % 256] : List Int) : List Int)).bind fun y251 => (if l0.length + y251.length < 140737488355328 then ((some (l0 ++ y251 : List Int)).bind fun y254 => (if y254.length + l3.length < 140737488355328 then (some (y254 ++ l3)) else (none))) else (none))) = some r := h
  clear h
  obtain ⟨y251, hy251⟩ : ∃ y_ : List Int, y_ = (([a1, a2, ((l3.length : Int)) % 256] : List Int)) := ⟨_, rfl⟩
  replace H : (if l0.length + y251.length < 140737488355328 then ((some (l0 ++ y251 : List Int)).bind fun y254 => (if y254.length + l3.length < 140737488355328 then (some (y254 ++ l3)) else (none))) else (none)) = some r := by first | (rw [hy251]; with_reducible exact H) | (have H2_ := (Option.bind_some _ _).symm.trans H; rw [hy251]; with_reducible exact H2_) | (have H2_ := (Option.bind_some _ _).symm.trans H; with_reducible exact H2_) | with_reducible exact H | (rw [hy251]; exact H) | exact H
  have Ny251 := Aside0.mk hy251
  clear hy251
  by_cases c5 : l0.length + y251.length < 140737488355328
  · rw [if_pos c5] at H
    have LMc5 := Aside0.mk c5
    clear c5
    obtain ⟨y254, hy254⟩ : ∃ y_ : List Int, y_ = (l0 ++ y251) := ⟨_, rfl⟩
    replace H : (if y254.length + l3.length < 140737488355328 then (some (y254 ++ l3)) else (none)) = some r := by first | (rw [hy254]; with_reducible exact H) | (have H2_ := (Option.bind_some _ _).symm.trans H; rw [hy254]; with_reducible exact H2_) | (have H2_ := (Option.bind_some _ _).symm.trans H; with_reducible exact H2_) | with_reducible exact H | (rw [hy254]; exact H) | exact H
    have Ny254 := Aside0.mk hy254
    clear hy254
    by_cases c6 : y254.length + l3.length < 140737488355328
    · rw [if_pos c6] at H
      have LMc6 := Aside0.mk c6
      clear c6
      obtain ⟨y257, hy257⟩ : ∃ y_ : List Int, y_ = (y254 ++ l3) := ⟨_, rfl⟩
      replace H : (some y257) = some r := by first | (rw [hy257]; with_reducible exact H) | (have H2_ := (Option.bind_some _ _).symm.trans H; rw [hy257]; with_reducible exact H2_) | (have H2_ := (Option.bind_some _ _).symm.trans H; with_reducible exact H2_) | with_reducible exact H | (rw [hy257]; exact H) | exact H
      have Ny257 := Aside0.mk hy257
      clear hy257
      obtain rfl := Option.some.inj H
      go_enter Try.func63, Try.ntmps63
      go_wp2_with (first | ((with_reducible refine gate_dst (N := 15) rfl ?_); refine Kd.R_lit (Kd.int .u8) _ 5 ?hg (N := 15) ?hd (xs := ([a1, a2, ((l3.length : Int)) % 256] : List Int)) (inner := [.int .u8 a1, .int .u8 a2, .int .u8 (((l3.length : Int)) % 256)]) (ok := fun _ => True) (okp := fun _ => True) ?hr ?hp (fun _ hk => hk) trivial (Below.refl _ _) (Nat.le_refl _) (by simp) ?_; (case hd => rfl); (case hg => rfl); (case hr => first | (go_simp; done) | (go_simp; rfl)); (case hp => exact (Reps.one (show Kd.M (Kd.int .u8) _ _ _ a1 [.int .u8 a1] from rfl) (Reps.one (show Kd.M (Kd.int .u8) _ _ _ a2 [.int .u8 a2] from rfl) (Reps.one (show Kd.M (Kd.int .u8) _ _ _ (((l3.length : Int)) % 256) [.int .u8 (((l3.length : Int)) % 256)] from rfl) (Reps.none _ _))))); intro v252 w7 ho8 hb hg_ hnew_; clear hg_ hnew_; (first | rw [← Ny251.out] at ho8 | (simp only [Int.reduceToNat] at ho8; rw [← Ny251.out] at ho8)); have n0_ := Aside0.mk (Kd.R_elder' (by (with_reducible repeat (first | apply Kd.R_alloc | apply Kd.R_drewN | apply Kd.R_drew)); exact HO0.out) (Kd.R_base ho8) hb); have n1_ := Aside0.mk (Kd.R_lower (Kd.R_new' (Kd.R_newM (M := fun k_ => (P0_ k_ ∨ w.heap.size ≤ k_)) ho8 (by first | exact HK.out.1 | exact (show Kept w _ (fun k_ => P0_ k_) from by repeat (first | (with_reducible first | exact HK.out | apply Kept.alloc | apply Kept.drewN | apply Kept.drew) | exact HK.out)).1) (fun k_ h_ => .inr h_)) (Kd.R_lt (by (with_reducible repeat (first | apply Kd.R_alloc | apply Kd.R_drewN | apply Kd.R_drew)); exact HO0.out))) (below_size (by repeat (first | (with_reducible first | exact HB.out | apply below_alloc | apply pw_below_drewN | apply below_drew1) | exact HB.out)))); have n2_ := Aside0.mk (Kept.below (S := (fun k_ => P0_ k_)) (by repeat (first | (with_reducible first | exact HK.out | apply Kept.alloc | apply Kept.drewN | apply Kept.drew) | exact HK.out)) hb); have n3_ := Aside0.mk (below_step (by repeat (first | (with_reducible first | exact HB.out | apply below_alloc | apply pw_below_drewN | apply below_drew1) | exact HB.out)) hb); clear HO0; clear HK; clear HB; have HO0 := n0_; have HO253 := n1_; have HK := n2_; have HB := n3_; clear n0_ n1_ n2_ n3_; clear hb ho8; obtain ⟨Ao10, co10, eo10⟩ := Kd.R_slice HO253.out; subst eo10) | ((with_reducible refine gate_builtin (b := .append) (xs := #[.tmp 9, .tmp 15]) rfl ?_); at_builtin; refine Kd.R_append_rows (Kd.int .u8) (w0 := w0) w0.heap.size rfl (.tmp 9) (.tmp 15) 22 5 (.int .u8 0) 1 rfl Try.underlying22 info5 rfl (by decide) (by omega) u9000_ l0 y251 _ _ _ (fun k_ => (P0_ k_ ∨ w.heap.size ≤ k_) ∧ some k_ ≠ (.slice Ao10 y251.length co10 : Value).ownBlock) (fun _ => False) rfl rfl ?aO ?aR (fun _ _ h => h) (fun _ h => h.elim) ?aF ?aB ?aS ?aL ?_; (case aR => repeat (first | exact (Kd.R_reads' HO253.out).2.2 | (with_reducible refine Kd.C_alloc ?_ _) | (with_reducible refine Kd.C_drewN ?_ _) | (with_reducible refine Kd.C_drew ?_))); (case aB => exact (by repeat (first | (with_reducible first | exact HB.out | apply below_alloc | apply pw_below_drewN | apply below_drew1) | exact HB.out))); (case aF => exact (fun k_ hk => ⟨(.inr (Nat.le_trans (by first | exact HK.out.1 | exact (show Kept w _ (fun k_ => P0_ k_) from by repeat (first | (with_reducible first | exact HK.out | apply Kept.alloc | apply Kept.drewN | apply Kept.drew) | exact HK.out)).1) hk)), Kd.fresh' (Kd.R_lt (by (with_reducible repeat (first | apply Kd.R_alloc | apply Kd.R_drewN | apply Kd.R_drew)); exact HO253.out)) k_ hk⟩)); (case aO => exact (by (with_reducible repeat (first | apply Kd.R_alloc | apply Kd.R_drewN | apply Kd.R_drew)); exact HO0.out)); (case aS => exact (below_size (by repeat (first | (with_reducible first | exact HB.out | apply below_alloc | apply pw_below_drewN | apply below_drew1) | exact HB.out)))); (case aL => have := LMc5.out; omega); intro v255 w9 ho hb hg hat; rw [← Ny254.out] at ho; have n0_ := Aside0.mk (Kd.R_after (ok := (fun k_ => (P0_ k_ ∨ w.heap.size ≤ k_))) (by (with_reducible repeat (first | apply Kd.R_alloc | apply Kd.R_drewN | apply Kd.R_drew)); exact Kd.R_mono HO253.out (fun _ hk => ⟨hk.1.1, hk.2⟩)) hg hat); have n1_ := Aside0.mk (hb); have n2_ := Aside0.mk (Kept.of_grown (S := (fun k_ => P0_ k_)) hg (by repeat (first | (with_reducible first | exact HK.out | apply Kept.alloc | apply Kept.drewN | apply Kept.drew) | exact HK.out)) (fun k_ e_ => (HO0.out.1 k_ e_).1)); have n3_ := Aside0.mk (ho); clear HO253; clear HB; clear HK; clear HO0; have HO253 := n0_; have HB := n1_; have HK := n2_; have HO256 := n3_; clear n0_ n1_ n2_ n3_; clear ho hb hg hat) | ((with_reducible refine gate_builtin (b := .append) (xs := #[.tmp 17, .tmp 18]) rfl ?_); at_builtin; refine Kd.R_append_rows (Kd.int .u8) (w0 := w0) w0.heap.size rfl (.tmp 17) (.tmp 18) 22 5 (.int .u8 0) 1 rfl Try.underlying22 info5 rfl (by decide) (by omega) v255 y254 l3 _ _ _ (fun k_ => (P0_ k_ ∨ w.heap.size ≤ k_) ∧ some k_ ≠ (.slice Ao10 y251.length co10 : Value).ownBlock) (fun _ => False) rfl rfl ?aO ?aR (fun _ _ h => h) (fun _ h => h.elim) ?aF ?aB ?aS ?aL ?_; (case aR => exact Kd.C_kept_now HR3.out (by repeat (first | (with_reducible first | exact HK.out | apply Kept.alloc | apply Kept.drewN | apply Kept.drew) | exact HK.out))); (case aB => exact (by repeat (first | (with_reducible first | exact HB.out | apply below_alloc | apply pw_below_drewN | apply below_drew1) | exact HB.out))); (case aF => exact (fun k_ hk => ⟨(.inr (Nat.le_trans (by first | exact HK.out.1 | exact (show Kept w _ (fun k_ => P0_ k_) from by repeat (first | (with_reducible first | exact HK.out | apply Kept.alloc | apply Kept.drewN | apply Kept.drew) | exact HK.out)).1) hk)), Kd.fresh' (Kd.R_lt (by (with_reducible repeat (first | apply Kd.R_alloc | apply Kd.R_drewN | apply Kd.R_drew)); exact HO253.out)) k_ hk⟩)); (case aO => exact (by (with_reducible repeat (first | apply Kd.R_alloc | apply Kd.R_drewN | apply Kd.R_drew)); exact HO256.out)); (case aS => exact (below_size (by repeat (first | (with_reducible first | exact HB.out | apply below_alloc | apply pw_below_drewN | apply below_drew1) | exact HB.out)))); (case aL => have := LMc6.out; omega); intro v258 w11 ho hb hg hat; rw [← Ny257.out] at ho; have n0_ := Aside0.mk (Kd.R_after (ok := (fun k_ => (P0_ k_ ∨ w.heap.size ≤ k_))) (by (with_reducible repeat (first | apply Kd.R_alloc | apply Kd.R_drewN | apply Kd.R_drew)); exact HO253.out) hg hat); have n1_ := Aside0.mk (hb); have n2_ := Aside0.mk (Kept.of_grown (S := (fun k_ => P0_ k_)) hg (by repeat (first | (with_reducible first | exact HK.out | apply Kept.alloc | apply Kept.drewN | apply Kept.drew) | exact HK.out)) (fun k_ e_ => (HO256.out.1 k_ e_).1)); have n3_ := Aside0.mk (ho); clear HO253; clear HB; clear HK; clear HO256; have HO253 := n0_; have HB := n1_; have HK := n2_; have HO259 := n3_; clear n0_ n1_ n2_ n3_; clear ho hb hg hat))
      go_ret
      exact ⟨_, by first | rfl | (simp [errW_none, errW_some] <;> rfl) | (simp [*, errW_none, errW_some] <;> rfl), by (with_reducible repeat (first | apply Kd.R_alloc | apply Kd.R_drewN | apply Kd.R_drew)); exact Kd.R_mono HO259.out (fun _ hk => hk.1), by repeat (first | (with_reducible first | exact HB.out | apply below_alloc | apply pw_below_drewN | apply below_drew1) | exact HB.out), by repeat (first | (with_reducible first | exact HK.out | apply Kept.alloc | apply Kept.drewN | apply Kept.drew) | exact HK.out)⟩
    · rw [if_neg c6] at H
      exact absurd H (by simp)
  · rw [if_neg c5] at H
    exact absurd H (by simp)

end Go.Proofs.Ytjmpojfpbhihpaa.P

end
section
namespace Go.Proofs.Ytjmpojfpbhihpaa.P
open Go.RowKit Go.Proofs.YtjmpojfpbhihpaaW.PrintWords Go.Proofs.YtjmpojfpbhihpaaW.PrintLast Go.Proofs.YtjmpojfpbhihpaaW.PrintMore
attribute [local go_sem] max2_int min2_int max_two min_two max_three min_three max_four min_four   -- for this text's walks alone
set_option linter.unusedVariables false
set_option linter.unusedSimpArgs false

mutual
def wire_attributes.j0 : Nat → List Int → List Int → Int → Int → Int → List Int → List (S102) → Int → List Int → Option (List Int)
  | 0, _, _, _, _, _, _, _, _, _ => none
  | k + 1, x3, x4, x261000, x261001, x261002, x261003, x261004, x261005, x261006 => wire_attributes.l0 k x3 x4 x261003 (x261003.length : Int) 0 x261000 x261001 x261002 x261003 x261004 x261005 x261006
def wire_attributes.l0 : Nat → List Int → List Int → List Int → Int → Int → Int → Int → Int → List Int → List (S102) → Int → List Int → Option (List Int)
  | 0, _, _, _, _, _, _, _, _, _, _, _, _ => none
  | k + 1, x3, x4, x28, x29, x30, x261000, x261001, x261002, x261003, x261004, x261005, x261006 => if x30 < x29 then (if 0 ≤ x30 then (if x30 < (x28.length : Int) then ((wire_number.f k x4 (rd x28 x30) 2).bind fun t271 => (wire_attributes.l0 k x3 t271 x28 x29 (wrap64 (x30 + 1)) x261000 x261001 x261002 x261003 x261004 x261005 x261006)) else (none)) else (none)) else ((wire_one.f x3 64 2 x4).bind fun t274 => (if x261001 > 0 then ((wire_number.f k ([] : List Int) x261001 4).bind fun t277 => ((wire_one.f t274 128 4 t277).bind fun t280 => (wire_attributes.j2 k t280 x261000 x261001 x261002 x261003 x261004 x261005 x261006))) else (wire_attributes.j2 k t274 x261000 x261001 x261002 x261003 x261004 x261005 x261006)))
def wire_attributes.j2 : Nat → List Int → Int → Int → Int → List Int → List (S102) → Int → List Int → Option (List Int)
  | 0, _, _, _, _, _, _, _, _ => none
  | k + 1, x3, x261000, x261001, x261002, x261003, x261004, x261005, x261006 => (wire_number.f k ([] : List Int) x261000 4).bind fun t283 => ((wire_one.f x3 64 5 t283).bind fun t286 => (wire_attributes.l1 k t286 ([] : List Int) x261004 (x261004.length : Int) 0 x261000 x261001 x261002 x261003 x261004 x261005 x261006))
def wire_attributes.l1 : Nat → List Int → List Int → List (S102) → Int → Int → Int → Int → Int → List Int → List (S102) → Int → List Int → Option (List Int)
  | 0, _, _, _, _, _, _, _, _, _, _, _, _ => none
  | k + 1, x3, x7, x55, x56, x57, x261000, x261001, x261002, x261003, x261004, x261005, x261006 => if x57 < x56 then (if 0 ≤ x57 then (if x57 < (x55.length : Int) then ((wire_number.f k x7 ((rd_T102 x55 x57).f0) 2).bind fun t291 => ((wire_number.f k t291 ((rd_T102 x55 x57).f1) 2).bind fun t294 => (wire_attributes.l1 k x3 t294 x55 x56 (wrap64 (x57 + 1)) x261000 x261001 x261002 x261003 x261004 x261005 x261006))) else (none)) else (none)) else (wire_attributes.l2 k x3 x7 ([] : List Int) x261006 (x261006.length : Int) 0 x261000 x261001 x261002 x261003 x261004 x261005 x261006)
def wire_attributes.l2 : Nat → List Int → List Int → List Int → List Int → Int → Int → Int → Int → Int → List Int → List (S102) → Int → List Int → Option (List Int)
  | 0, _, _, _, _, _, _, _, _, _, _, _, _, _ => none
  | k + 1, x3, x7, x8, x70, x71, x72, x261000, x261001, x261002, x261003, x261004, x261005, x261006 => if x72 < x71 then (if 0 ≤ x72 then (if x72 < (x70.length : Int) then ((wire_number.f k x8 (rd x70 x72) 4).bind fun t298 => (wire_attributes.l2 k x3 x7 t298 x70 x71 (wrap64 (x72 + 1)) x261000 x261001 x261002 x261003 x261004 x261005 x261006)) else (none)) else (none)) else (if (x7.length : Int) > 0 then ((wire_one.f x3 192 8 x7).bind fun t301 => (wire_attributes.j5 k t301 x8 x261000 x261001 x261002 x261003 x261004 x261005 x261006)) else (wire_attributes.j5 k x3 x8 x261000 x261001 x261002 x261003 x261004 x261005 x261006))
def wire_attributes.j5 : Nat → List Int → List Int → Int → Int → Int → List Int → List (S102) → Int → List Int → Option (List Int)
  | 0, _, _, _, _, _, _, _, _, _ => none
  | k + 1, x3, x8, x261000, x261001, x261002, x261003, x261004, x261005, x261006 => if x261005 > 0 then ((wire_number.f k ([] : List Int) x261005 4).bind fun t304 => ((wire_one.f x3 128 9 t304).bind fun t307 => (if (x8.length : Int) > 0 then ((wire_one.f t307 128 10 x8).bind fun t310 => (some t310)) else (some t307)))) else (if (x8.length : Int) > 0 then ((wire_one.f x3 128 10 x8).bind fun t313 => (some t313)) else (some x3))
end
def wire_attributes.f (k : Nat) (a0_0 : Int) (a0_1 : Int) (a0_2 : Int) (l0_3 : List Int) (l0_4 : List (S102)) (a0_5 : Int) (l0_6 : List Int) : Option (List Int) := (wire_one.f ([] : List Int) 64 1 (([(a0_2) % 256] : List Int))).bind fun t264 => (if (l0_3.length : Int) > 0 then (wire_attributes.j0 k t264 (([2, ((l0_3.length : Int)) % 256] : List Int)) a0_0 a0_1 a0_2 l0_3 l0_4 a0_5 l0_6) else (wire_attributes.j0 k t264 ([] : List Int) a0_0 a0_1 a0_2 l0_3 l0_4 a0_5 l0_6))
def wire_attributes.T18 : Bool × List (List Nat × List Nat) := (true, [([], []), ([], []), ([1], [1]), ([0, 2], [0, 2]), ([], []), ([4], [4]), ([3, 5, 3], [3, 5]), ([6, 6, 0, 1, 2, 3, 4, 5, 6], [0, 6])])
def wire_attributes.B18 : List Nat := [0, 0, 2, 7, 0, 16, 63, 127]
theorem wire_attributes.tab18 : rtab .any (opsOf Try.f36 18) = wire_attributes.T18 := by kernel_rfl
theorem wire_attributes.bits18 : waitsOk wire_attributes.T18.2 wire_attributes.B18 = true := by kernel_rfl
theorem k0567.b2e {W : World} {g : Nat} {v0 v1 : Value} {t : TypeId} (h : W.heap[g]? = some (.cells #[v0, v1] t (0, 0))) : W.cell? ⟨g, 0, none⟩ = some v0 ∧ W.cell? ⟨g, 1, none⟩ = some v1 :=
  ⟨(blk_cell h 0).trans rfl, (blk_cell h 1).trans rfl⟩
set_option maxHeartbeats 8000000 in
set_option maxRecDepth 100000 in
theorem wire_attributes.calls (k : Nat) (aj : Int) (ah : Int) (ai : Int) (an : Option Addr) (ao : Nat) (ae : List Int) (au : Option Addr) (ap : Nat) (ac : List (S102)) (ag : Int) (aq : Option Addr) (ar : Nat) (af : List Int) (r : List Int) (w : World) (hr0_3 : Kd.C (Kd.int .i64) w an ae.length ae) (hc0_3 : ae.length ≤ ao) (hr0_4 : Kd.C k102 w au ac.length ac) (hc0_4 : ac.length ≤ ap) (hr0_6 : Kd.C (Kd.int .i64) w aq af.length af) (hc0_6 : af.length ≤ ar) (h : wire_attributes.f k aj ah ai ae ac ag af = some r) :
  Calls Try.prog 36 #[.agg #[.int .i64 aj, .int .i64 ah, .int .i64 ai, .slice an ae.length ao, .slice au ac.length ap, .int .i64 ag, .slice aq af.length ar]] w fun e w' => ∃ v0_ : Value, e = .returned (v0_) ∧ Kd.R (Kd.int .u8) 5 w' w.heap.size (fun _ => True) v0_ r ∧ Below w.heap.size w w' := by
 have hu41 := Try.underlying41
 have hu102 := Try.underlying102
 have HR0_3 := Aside0.mk hr0_3
 have HC0_3 := Aside0.mk hc0_3
 clear hr0_3 hc0_3
 have HR0_4 := Aside0.mk hr0_4
 have HC0_4 := Aside0.mk hc0_4
 clear hr0_4 hc0_4
 have HR0_6 := Aside0.mk hr0_6
 have HC0_6 := Aside0.mk hc0_6
 clear hr0_6 hc0_6
 have HB := Aside0.mk (Below.refl w.heap.size w)
 have H := h
 unfold wire_attributes.f at H
 clear h
 obtain ⟨y261, hy261⟩ : ∃ y_ : List Int, y_ = (([(ai) % 256] : List Int)) := ⟨_, rfl⟩
 replace H : ((wire_one.f ([] : List Int) 64 1 y261).bind fun t264 => (if (ae.length : Int) > 0 then (wire_attributes.j0 k t264 (([2, ((ae.length : Int)) % 256] : List Int)) aj ah ai ae ac ag af) else (wire_attributes.j0 k t264 ([] : List Int) aj ah ai ae ac ag af))) = some r := by first | (rw [hy261]; with_reducible exact H) | (have H2_ := (Option.bind_some _ _).symm.trans H; rw [hy261]; with_reducible exact H2_) | (have H2_ := (Option.bind_some _ _).symm.trans H; with_reducible exact H2_) | with_reducible exact H | (rw [hy261]; exact H) | exact H
 have Ny261 := Aside0.mk hy261
 clear hy261
 replace H := Option.bind_eq_some_iff.mp H
 obtain ⟨t264, A20, H⟩ := H
 (try dsimp only at H)
 have A2 := Aside0.mk A20
 clear A20
 have HC3 := Aside0.mk H
 clear H
 go_enter Try.func36, Try.ntmps36
 go_upto_if 21 with (first | ((with_reducible refine gate_dst (N := 1) rfl ?_); refine box_event ?hg (N := 1) ?hd (cs := #[.int .i64 aj, .int .i64 ah, .int .i64 ai, .slice an ae.length ao, .slice au ac.length ap, .int .i64 ag, .slice aq af.length ar]) (t := 41) ?hr ?_; (case hd => rfl); (case hg => rfl); (case hr => first | (go_simp; done) | (go_simp; rfl)); intro ab hg w4 hbox hb; have n0_ := Aside0.mk (below_step (by repeat (first | (with_reducible first | exact HB.out | apply below_alloc | apply pw_below_drewN | apply below_drew1) | exact HB.out)) hb); have n1_ := Aside0.mk (hbox); have n2_ := Aside0.mk ((by rw [hg]; exact (below_size (by repeat (first | (with_reducible first | exact HB.out | apply below_alloc | apply pw_below_drewN | apply below_drew1) | exact HB.out))) : w.heap.size ≤ ab)); have n3_ := Aside0.mk ((by rw [hg]; exact (below_size (by repeat (first | (with_reducible first | exact HB.out | apply below_alloc | apply pw_below_drewN | apply below_drew1) | exact HB.out))) : w.heap.size ≤ ab)); clear HB; have HB := n0_; have aa := n1_; have GW260 := n2_; have ad := n3_; clear n0_ n1_ n2_ n3_; clear hb hbox hg; have hcz5_0 : w4.cell? ⟨ab, 0, none⟩ = some (.int .i64 aj) := (blk_cell aa.out 0).trans rfl; have hcz5_1 : w4.cell? ⟨ab, 1, none⟩ = some (.int .i64 ah) := (blk_cell aa.out 1).trans rfl; have hcz5_2 : w4.cell? ⟨ab, 2, none⟩ = some (.int .i64 ai) := (blk_cell aa.out 2).trans rfl; have hcz5_3 : w4.cell? ⟨ab, 3, none⟩ = some (.slice an ae.length ao) := (blk_cell aa.out 3).trans rfl; have hcz5_4 : w4.cell? ⟨ab, 4, none⟩ = some (.slice au ac.length ap) := (blk_cell aa.out 4).trans rfl; have hcz5_5 : w4.cell? ⟨ab, 5, none⟩ = some (.int .i64 ag) := (blk_cell aa.out 5).trans rfl; have hcz5_6 : w4.cell? ⟨ab, 6, none⟩ = some (.slice aq af.length ar) := (blk_cell aa.out 6).trans rfl; have hfz5_0 := blk_frozen aa.out 0; have hfz5_1 := blk_frozen aa.out 1; have hfz5_2 := blk_frozen aa.out 2; have hfz5_3 := blk_frozen aa.out 3; have hfz5_4 := blk_frozen aa.out 4; have hfz5_5 := blk_frozen aa.out 5; have hfz5_6 := blk_frozen aa.out 6) | ((with_reducible refine gate_dst (N := 16) rfl ?_); refine Kd.R_lit (Kd.int .u8) _ 5 ?hg (N := 16) ?hd (xs := ([(ai) % 256] : List Int)) (inner := [.int .u8 ((ai) % 256)]) (ok := fun _ => True) (okp := fun _ => True) ?hr ?hp (fun _ hk => hk) trivial (Below.refl _ _) (Nat.le_refl _) (by simp) ?_; (case hd => rfl); (case hg => rfl); (case hr => first | (go_simp; done) | (go_simp; rfl)); (case hp => exact (Reps.one (show Kd.M (Kd.int .u8) _ _ _ ((ai) % 256) [.int .u8 ((ai) % 256)] from rfl) (Reps.none _ _))); intro v262 w6 ho7 hb hg_ hnew_; clear hg_ hnew_; (first | rw [← Ny261.out] at ho7 | (simp only [Int.reduceToNat] at ho7; rw [← Ny261.out] at ho7)); have av := Aside0.mk (Kd.R_lower ho7 (below_size (by repeat (first | (with_reducible first | exact HB.out | apply below_alloc | apply pw_below_drewN | apply below_drew1 | refine below_set ?_ ad.out) | exact HB.out)))); replace aa := Aside0.mk (blk_below (g := ab) (by (with_reducible repeat (first | refine blk_drewN ?_ _ | refine blk_drew ?_ | refine blk_alloc ?_ _)); exact aa.out) hb); replace HB := Aside0.mk (below_step (by repeat (first | (with_reducible first | exact HB.out | apply below_alloc | apply pw_below_drewN | apply below_drew1 | refine below_set ?_ ad.out) | exact HB.out)) hb); clear hb ho7; obtain ⟨Ao8, co8, eo8⟩ := Kd.R_slice av.out; subst eo8) | ((with_reducible refine gate_callee (f := 63) rfl ?_); refine goesL_ (some 17) rfl rfl Try.func63 (by kernel_rfl) rfl #[.slice none 0 0, .int .u8 64, .int .u8 1, .slice Ao8 y261.length co8] rfl (by (try simp only [List.map_toArray, List.map_cons, List.map_nil]); first | done | rfl) ?_; (refine (wire_one.calls (fun k_ => some k_ = (.slice none 0 0 : Value).ownBlock) (.slice none 0 0) ([] : List Int) 64 1 _ _ y261 t264 w _ ?side1 ?side2 ?side3 ?side4 A2.out).mono ?_); (case side1 => repeat (first | (with_reducible first | exact HB.out | apply below_alloc | apply pw_below_drewN | apply below_drew1 | refine below_set ?_ ad.out) | exact HB.out)); (case side2 | side4 => first | exact Kd.R_nil _ _ _ _ _ | exact (Kd.R_reads' av.out).2.1); (case side3 => exact Kd.C_kept_own (av.out) (fun k_ hk_ hs_ => (fun e_ => by simp [Value.ownBlock] at e_) hs_)); rintro e w9 ⟨v265, rfl, ho0, hb, hkp⟩; refine ⟨_, rfl, ?_⟩; have n0_ := Aside0.mk (blk_kept (by (with_reducible repeat (first | refine blk_drewN ?_ _ | refine blk_drew ?_ | refine blk_alloc ?_ _)); exact aa.out) hkp (fun hs_ => (fun e_ => by simp [Value.ownBlock] at e_) hs_)); have n1_ := Aside0.mk (Kd.R_mono (ok' := fun k_ => some k_ ≠ (v265 : Value).ownBlock) (Kd.R_keptB (av.out) hkp (fun k_ hk_ hs_ => (fun e_ => by simp [Value.ownBlock] at e_) hs_)) (fun k_ hk_ => fun e_ => Or.elim (ho0.1 k_ e_.symm) (fun hs_ => hk_.2.1 hs_) (fun hn_ => Nat.not_le.2 hk_.2.2 hn_))); have n2_ := Aside0.mk (Kd.R_mono (ok' := fun k_ => some k_ ≠ (.slice Ao8 y261.length co8 : Value).ownBlock) ho0 (fun k_ hk_ => Or.elim hk_ (fun hs_ => absurd hs_ (by simp [Value.ownBlock])) (fun hn_ => (Kd.fresh' (Kd.R_lt (by (with_reducible repeat (first | apply Kd.R_alloc | apply Kd.R_drewN | apply Kd.R_drew)); exact av.out)) k_ hn_)))); have n3_ := Aside0.mk (hb); clear aa; clear av; clear HB; have aa := n0_; have av := n1_; have HO266 := n2_; have HB := n3_; clear n0_ n1_ n2_ n3_; (try clear hb); (try clear hkp); (try clear ho0); have hcz10_0 : w9.cell? ⟨ab, 0, none⟩ = some (.int .i64 aj) := (blk_cell aa.out 0).trans rfl; have hcz10_1 : w9.cell? ⟨ab, 1, none⟩ = some (.int .i64 ah) := (blk_cell aa.out 1).trans rfl; have hcz10_2 : w9.cell? ⟨ab, 2, none⟩ = some (.int .i64 ai) := (blk_cell aa.out 2).trans rfl; have hcz10_3 : w9.cell? ⟨ab, 3, none⟩ = some (.slice an ae.length ao) := (blk_cell aa.out 3).trans rfl; have hcz10_4 : w9.cell? ⟨ab, 4, none⟩ = some (.slice au ac.length ap) := (blk_cell aa.out 4).trans rfl; have hcz10_5 : w9.cell? ⟨ab, 5, none⟩ = some (.int .i64 ag) := (blk_cell aa.out 5).trans rfl; have hcz10_6 : w9.cell? ⟨ab, 6, none⟩ = some (.slice aq af.length ar) := (blk_cell aa.out 6).trans rfl; have hfz10_0 := blk_frozen aa.out 0; have hfz10_1 := blk_frozen aa.out 1; have hfz10_2 := blk_frozen aa.out 2; have hfz10_3 := blk_frozen aa.out 3; have hfz10_4 := blk_frozen aa.out 4; have hfz10_5 := blk_frozen aa.out 5; have hfz10_6 := blk_frozen aa.out 6))
 (try simp only [Act.put, List.setIfInBounds_toArray, List.set_cons_zero, List.set_cons_succ])
 go_cut [4] (fun v4 wc => ∃ (kq : Nat) (x4_2 : List Int), Aside0 (wire_attributes.j0 kq t264 x4_2 aj ah ai ae ac ag af = some r) ∧ Aside0 (kq ≤ k) ∧ Aside0 (Kd.R (Kd.int .u8) 5 wc w.heap.size (fun k_ => some k_ ≠ (v4 : Value).ownBlock) v265 t264) ∧ Aside0 (Kd.R (Kd.int .u8) 5 wc w.heap.size (fun k_ => some k_ ≠ (v265 : Value).ownBlock) v4 x4_2) ∧ Aside0 (wc.heap[ab]? = some (.cells #[.int .i64 aj, .int .i64 ah, .int .i64 ai, (.slice an ae.length ao), (.slice au ac.length ap), .int .i64 ag, (.slice aq af.length ar)] 41 (0, 0))) ∧ Aside0 (Below w.heap.size w wc))
 case first =>
  have H := HC3.out
  clear HC3
  by_cases az : (ae.length : Int) > 0
  ·rw [if_pos az] at H
   have c11b0 : decide (0 < (ae.length : Int)) = true := decide_eq_true az
   have c11b1 : decide (0 < ae.length) = true := decide_eq_true (by omega)
   clear az
   (first | rw [c11b0] | rw [c11b1] | (simp only [i64_w]; rw [c11b0]) | skip)
   obtain ⟨y267, hy267⟩ : ∃ y_ : List Int, y_ = (([2, ((ae.length : Int)) % 256] : List Int)) := ⟨_, rfl⟩
   replace H : (wire_attributes.j0 k t264 y267 aj ah ai ae ac ag af) = some r := by first | (rw [hy267]; with_reducible exact H) | (have H2_ := (Option.bind_some _ _).symm.trans H; rw [hy267]; with_reducible exact H2_) | (have H2_ := (Option.bind_some _ _).symm.trans H; with_reducible exact H2_) | with_reducible exact H | (rw [hy267]; exact H) | exact H
   have Ny267 := Aside0.mk hy267
   clear hy267
   have H' := Aside0.mk H
   clear H
   have hcz12_0 : w9.cell? ⟨ab, 0, none⟩ = some (.int .i64 aj) := (blk_cell aa.out 0).trans rfl
   have hcz12_1 : w9.cell? ⟨ab, 1, none⟩ = some (.int .i64 ah) := (blk_cell aa.out 1).trans rfl
   have hcz12_2 : w9.cell? ⟨ab, 2, none⟩ = some (.int .i64 ai) := (blk_cell aa.out 2).trans rfl
   have hcz12_3 : w9.cell? ⟨ab, 3, none⟩ = some (.slice an ae.length ao) := (blk_cell aa.out 3).trans rfl
   have hcz12_4 : w9.cell? ⟨ab, 4, none⟩ = some (.slice au ac.length ap) := (blk_cell aa.out 4).trans rfl
   have hcz12_5 : w9.cell? ⟨ab, 5, none⟩ = some (.int .i64 ag) := (blk_cell aa.out 5).trans rfl
   have hcz12_6 : w9.cell? ⟨ab, 6, none⟩ = some (.slice aq af.length ar) := (blk_cell aa.out 6).trans rfl
   have hfz12_0 := blk_frozen aa.out 0
   have hfz12_1 := blk_frozen aa.out 1
   have hfz12_2 := blk_frozen aa.out 2
   have hfz12_3 := blk_frozen aa.out 3
   have hfz12_4 := blk_frozen aa.out 4
   have hfz12_5 := blk_frozen aa.out 5
   have hfz12_6 := blk_frozen aa.out 6
   go_wp2_with (first | ((with_reducible refine gate_dst (N := 26) rfl ?_); refine Kd.R_lit (Kd.int .u8) _ 5 ?hg (N := 26) ?hd (xs := ([2, ((ae.length : Int)) % 256] : List Int)) (inner := [.int .u8 2, .int .u8 (((ae.length : Int)) % 256)]) (ok := fun _ => True) (okp := fun _ => True) ?hr ?hp (fun _ hk => hk) trivial (Below.refl _ _) (Nat.le_refl _) (by simp) ?_; (case hd => rfl); (case hg => rfl); (case hr => first | (go_simp; done) | (go_simp; rfl)); (case hp => exact (Reps.one (show Kd.M (Kd.int .u8) _ _ _ 2 [.int .u8 2] from rfl) (Reps.one (show Kd.M (Kd.int .u8) _ _ _ (((ae.length : Int)) % 256) [.int .u8 (((ae.length : Int)) % 256)] from rfl) (Reps.none _ _)))); intro v268 w13 ho14 hb hg_ hnew_; clear hg_ hnew_; (first | rw [← Ny267.out] at ho14 | (simp only [Int.reduceToNat] at ho14; rw [← Ny267.out] at ho14)); have n0_ := Aside0.mk (Kd.R_elder' (by (with_reducible repeat (first | apply Kd.R_alloc | apply Kd.R_drewN | apply Kd.R_drew)); exact av.out) (Kd.R_base ho14) hb); have n1_ := Aside0.mk (Kd.R_elder' (by (with_reducible repeat (first | apply Kd.R_alloc | apply Kd.R_drewN | apply Kd.R_drew)); exact HO266.out) (Kd.R_base ho14) hb); have n2_ := Aside0.mk (Kd.R_lower (Kd.R_new' (Kd.R_new' ho14 (Kd.R_lt (by (with_reducible repeat (first | apply Kd.R_alloc | apply Kd.R_drewN | apply Kd.R_drew)); exact av.out))) (Kd.R_lt (by (with_reducible repeat (first | apply Kd.R_alloc | apply Kd.R_drewN | apply Kd.R_drew)); exact HO266.out))) (below_size (by repeat (first | (with_reducible first | exact HB.out | apply below_alloc | apply pw_below_drewN | apply below_drew1 | refine below_set ?_ ad.out) | exact HB.out)))); have n3_ := Aside0.mk (blk_below (g := ab) (by (with_reducible repeat (first | refine blk_drewN ?_ _ | refine blk_drew ?_ | refine blk_alloc ?_ _)); exact aa.out) hb); have n4_ := Aside0.mk (below_step (by repeat (first | (with_reducible first | exact HB.out | apply below_alloc | apply pw_below_drewN | apply below_drew1 | refine below_set ?_ ad.out) | exact HB.out)) hb); clear av; clear HO266; clear aa; clear HB; have av := n0_; have HO266 := n1_; have HO269 := n2_; have aa := n3_; have HB := n4_; clear n0_ n1_ n2_ n3_ n4_; clear hb ho14))
   go_meet
   case rel => exact ⟨_, (y267), H', ⟨by first | omega | exact Nat.le_refl _⟩, ⟨by (with_reducible repeat (first | apply Kd.R_alloc | apply Kd.R_drewN | apply Kd.R_drew)); exact Kd.R_mono HO266.out (fun _ hk => hk.2)⟩, ⟨by (with_reducible repeat (first | apply Kd.R_alloc | apply Kd.R_drewN | apply Kd.R_drew)); exact Kd.R_mono HO269.out (fun _ hk => hk.2)⟩, ⟨by (with_reducible repeat (first | refine blk_drewN ?_ _ | refine blk_drew ?_ | refine blk_alloc ?_ _)); exact aa.out⟩, ⟨by repeat (first | (with_reducible first | exact HB.out | apply below_alloc | apply pw_below_drewN | apply below_drew1 | refine below_set ?_ ad.out) | exact HB.out)⟩⟩
  ·rw [if_neg az] at H
   have c11b0 : decide (0 < (ae.length : Int)) = false := decide_eq_false az
   have c11b1 : decide (0 < ae.length) = false := decide_eq_false (by omega)
   clear az
   (first | rw [c11b0] | rw [c11b1] | (simp only [i64_w]; rw [c11b0]) | skip)
   have H' := Aside0.mk H
   clear H
   go_wp2
   go_meet
   case rel => exact ⟨_, (([] : List Int)), H', ⟨by first | omega | exact Nat.le_refl _⟩, ⟨by (with_reducible repeat (first | apply Kd.R_alloc | apply Kd.R_drewN | apply Kd.R_drew)); exact Kd.R_mono HO266.out (fun _ hk => (by simp [Value.ownBlock]))⟩, ⟨by first | exact Kd.R_nil _ _ _ _ _ | exact Kd.N_nil _ _ _ _ _ | exact Kd.V_nil _ _ _ _ _ | exact Kd.Q_nil _ _ _ _ _ | exact Kd.S_nil _ _ _ _ _⟩, ⟨by (with_reducible repeat (first | refine blk_drewN ?_ _ | refine blk_drew ?_ | refine blk_alloc ?_ _)); exact aa.out⟩, ⟨by repeat (first | (with_reducible first | exact HB.out | apply below_alloc | apply pw_below_drewN | apply below_drew1 | refine below_set ?_ ad.out) | exact HB.out)⟩⟩
 case rest =>
  clear HC3
  try clear c1
  try clear p2
  try clear c3
  try clear c6
  try clear az
  try clear c11b0
  try clear c11b1
  try clear hcz10_0
  try clear hcz10_1
  try clear hcz10_2
  try clear hcz10_3
  try clear hcz10_4
  try clear hcz10_5
  try clear hcz10_6
  try clear hcz12_0
  try clear hcz12_1
  try clear hcz12_2
  try clear hcz12_3
  try clear hcz12_4
  try clear hcz12_5
  try clear hcz12_6
  try clear hcz5_0
  try clear hcz5_1
  try clear hcz5_2
  try clear hcz5_3
  try clear hcz5_4
  try clear hcz5_5
  try clear hcz5_6
  try clear hfz10_0
  try clear hfz10_1
  try clear hfz10_2
  try clear hfz10_3
  try clear hfz10_4
  try clear hfz10_5
  try clear hfz10_6
  try clear hfz12_0
  try clear hfz12_1
  try clear hfz12_2
  try clear hfz12_3
  try clear hfz12_4
  try clear hfz12_5
  try clear hfz12_6
  try clear hfz5_0
  try clear hfz5_1
  try clear hfz5_2
  try clear hfz5_3
  try clear hfz5_4
  try clear hfz5_5
  try clear hfz5_6
  obtain ⟨kq, x4_2, HA, HJ2, HO_3, HO_4, aa, HB⟩ := hcut
  cases kq with
  | zero => exact absurd HA.out (by simp [wire_attributes.j0])
  | succ kj2 =>
   have H := HA.out
   clear HA
   simp only [wire_attributes.j0] at H
   have H' := Aside0.mk H
   clear H
   have hcz15_0 : wc.cell? ⟨ab, 0, none⟩ = some (.int .i64 aj) := (blk_cell aa.out 0).trans rfl
   have hcz15_1 : wc.cell? ⟨ab, 1, none⟩ = some (.int .i64 ah) := (blk_cell aa.out 1).trans rfl
   have hcz15_2 : wc.cell? ⟨ab, 2, none⟩ = some (.int .i64 ai) := (blk_cell aa.out 2).trans rfl
   have hcz15_3 : wc.cell? ⟨ab, 3, none⟩ = some (.slice an ae.length ao) := (blk_cell aa.out 3).trans rfl
   have hcz15_4 : wc.cell? ⟨ab, 4, none⟩ = some (.slice au ac.length ap) := (blk_cell aa.out 4).trans rfl
   have hcz15_5 : wc.cell? ⟨ab, 5, none⟩ = some (.int .i64 ag) := (blk_cell aa.out 5).trans rfl
   have hcz15_6 : wc.cell? ⟨ab, 6, none⟩ = some (.slice aq af.length ar) := (blk_cell aa.out 6).trans rfl
   have hfz15_0 := blk_frozen aa.out 0
   have hfz15_1 := blk_frozen aa.out 1
   have hfz15_2 := blk_frozen aa.out 2
   have hfz15_3 := blk_frozen aa.out 3
   have hfz15_4 := blk_frozen aa.out 4
   have hfz15_5 := blk_frozen aa.out 5
   have hfz15_6 := blk_frozen aa.out 6
   go_wp2
   go_loopg [4, 30] kj2 (fun kq v4 v30 w' => ∃ (x4_2 : List Int) (x30_2 : Int), v30 = .int .i64 x30_2 ∧ Aside0 (wire_attributes.l0 kq t264 x4_2 ae (ae.length : Int) x30_2 aj ah ai ae ac ag af = some r) ∧ Aside0 (kq ≤ kj2) ∧ Aside0 (Kd.R (Kd.int .u8) 5 w' w.heap.size (fun k_ => some k_ ≠ (v4 : Value).ownBlock) v265 t264) ∧ Aside0 (Kd.R (Kd.int .u8) 5 w' w.heap.size (fun k_ => some k_ ≠ (v265 : Value).ownBlock) v4 x4_2) ∧ Aside0 (w'.heap[ab]? = some (.cells #[.int .i64 aj, .int .i64 ah, .int .i64 ai, (.slice an ae.length ao), (.slice au ac.length ap), .int .i64 ag, (.slice aq af.length ar)] 41 (0, 0))) ∧ Aside0 (Below w.heap.size w w'))
   case atStart => exact ⟨(x4_2), (0), (by first | rfl | (simp; done) | (simp [*]; done)), H', ⟨Nat.le_refl _⟩, ⟨by (with_reducible repeat (first | apply Kd.R_alloc | apply Kd.R_drewN | apply Kd.R_drew)); exact HO_3.out⟩, ⟨by (with_reducible repeat (first | apply Kd.R_alloc | apply Kd.R_drewN | apply Kd.R_drew)); exact HO_4.out⟩, ⟨by (with_reducible repeat (first | refine blk_drewN ?_ _ | refine blk_drew ?_ | refine blk_alloc ?_ _)); exact aa.out⟩, ⟨by repeat (first | (with_reducible first | exact HB.out | apply below_alloc | apply pw_below_drewN | apply below_drew1 | refine below_set ?_ ad.out) | exact HB.out)⟩⟩
   case round =>
    clear H'
    try clear c1
    try clear p2
    try clear c3
    try clear c6
    try clear az
    try clear c11b0
    try clear c11b1
    try clear hcz10_0
    try clear hcz10_1
    try clear hcz10_2
    try clear hcz10_3
    try clear hcz10_4
    try clear hcz10_5
    try clear hcz10_6
    try clear hcz12_0
    try clear hcz12_1
    try clear hcz12_2
    try clear hcz12_3
    try clear hcz12_4
    try clear hcz12_5
    try clear hcz12_6
    try clear hcz15_0
    try clear hcz15_1
    try clear hcz15_2
    try clear hcz15_3
    try clear hcz15_4
    try clear hcz15_5
    try clear hcz15_6
    try clear hcz5_0
    try clear hcz5_1
    try clear hcz5_2
    try clear hcz5_3
    try clear hcz5_4
    try clear hcz5_5
    try clear hcz5_6
    try clear hfz10_0
    try clear hfz10_1
    try clear hfz10_2
    try clear hfz10_3
    try clear hfz10_4
    try clear hfz10_5
    try clear hfz10_6
    try clear hfz12_0
    try clear hfz12_1
    try clear hfz12_2
    try clear hfz12_3
    try clear hfz12_4
    try clear hfz12_5
    try clear hfz12_6
    try clear hfz15_0
    try clear hfz15_1
    try clear hfz15_2
    try clear hfz15_3
    try clear hfz15_4
    try clear hfz15_5
    try clear hfz15_6
    try clear hfz5_0
    try clear hfz5_1
    try clear hfz5_2
    try clear hfz5_3
    try clear hfz5_4
    try clear hfz5_5
    try clear hfz5_6
    try clear p2
    obtain ⟨x4_2, x30_2, rfl, HA, HK2, HO_3, HO_4, aa, HB⟩ := hrel
    cases gk with
    | zero => exact absurd HA.out (by simp [wire_attributes.l0])
    | succ k2 =>
     have H := HA.out
     clear HA
     simp only [wire_attributes.l0] at H
     by_cases a7 : x30_2 < (ae.length : Int)
     ·rw [if_pos a7] at H
      have c16b0 : decide (x30_2 < (ae.length : Int)) = true := decide_eq_true a7
      clear a7
      by_cases a9 : 0 ≤ x30_2
      ·rw [if_pos a9] at H
       have c17b0 : decide (0 ≤ x30_2) = true := decide_eq_true a9
       clear a9
       by_cases ba : x30_2 < (ae.length : Int)
       ·rw [if_pos ba] at H
        have c18b0 : decide (x30_2 < (ae.length : Int)) = true := decide_eq_true ba
        clear ba
        replace H := Option.bind_eq_some_iff.mp H
        obtain ⟨t271, A190, H⟩ := H
        (try dsimp only at H)
        have A19 := Aside0.mk A190
        clear A190
        have H' := Aside0.mk H
        clear H
        have p270 : 0 ≤ (x30_2 : Int) := of_decide_eq_true (by first | (with_reducible assumption) | assumption)
        have q270 : x30_2 < (ae.length : Int) := of_decide_eq_true (by first | (with_reducible assumption) | assumption)
        obtain ⟨ad270, e270, hx270_0⟩ := Kd.at_int HR0_3.out x30_2 p270 q270
        (try (injection e270 with e270; replace e270 := e270.symm; subst e270; have e270 : True := trivial))
        cases e270
        replace hx270_0 := (HB.out.cell (World.block_lt_of_cell? w _ hx270_0)).trans hx270_0
        replace p270 := eq_true p270
        replace q270 := eq_true q270
        obtain ⟨Ao20, co20, eo20⟩ := Kd.R_slice HO_4.out
        subst eo20
        go_wp2_with (first | ((with_reducible refine gate_callee (f := 28) rfl ?_); refine goesL_ (some 36) rfl rfl Try.func28 (by kernel_rfl) rfl #[.slice Ao20 x4_2.length co20, .int .i64 (rd ae x30_2), .int .i64 2] rfl (by (try simp only [List.map_toArray, List.map_cons, List.map_nil]); first | done | rfl) ?_; (with_reducible refine (wire_number.calls k2 (fun k_ => some k_ = (.slice Ao20 x4_2.length co20 : Value).ownBlock) (.slice Ao20 x4_2.length co20) x4_2 (rd ae x30_2) 2 t271 w _ ?side1 ?side2 A19.out).mono ?_); (case side1 => repeat (first | (with_reducible first | exact HB.out | apply below_alloc | apply pw_below_drewN | apply below_drew1 | refine below_set ?_ ad.out) | exact HB.out)); (case side2 => exact Kd.R_tight rfl HO_4.out); rintro e w21 ⟨v272, rfl, ho0, hb, hkp⟩; refine ⟨_, rfl, ?_⟩; have n0_ := Aside0.mk (Kd.R_mono (ok' := fun k_ => some k_ ≠ (v272 : Value).ownBlock) (Kd.R_keptB (HO_3.out) hkp (fun k_ hk_ hs_ => (hk_) hs_)) (fun k_ hk_ => fun e_ => Or.elim (ho0.1 k_ e_.symm) (fun hs_ => hk_.2.1 hs_) (fun hn_ => Nat.not_le.2 hk_.2.2 hn_))); have n1_ := Aside0.mk (blk_kept (by (with_reducible repeat (first | refine blk_drewN ?_ _ | refine blk_drew ?_ | refine blk_alloc ?_ _)); exact aa.out) hkp (fun hs_ => (fun e_ => (Kd.R_ne HO_4.out aa.out (by decide)) e_) hs_)); have n2_ := Aside0.mk (Kd.R_mono (ok' := fun k_ => some k_ ≠ (v265 : Value).ownBlock) ho0 (fun k_ hk_ => Or.elim hk_ (fun hs_ => fun e_ => (((HO_3.out).1 k_ e_.symm)) hs_) (fun hn_ => (Kd.fresh' (Kd.R_lt (by (with_reducible repeat (first | apply Kd.R_alloc | apply Kd.R_drewN | apply Kd.R_drew)); exact HO_3.out)) k_ hn_)))); have n3_ := Aside0.mk (hb); clear HO_3; clear aa; clear HB; clear HO_4; have HO_3 := n0_; have aa := n1_; have HO273 := n2_; have HB := n3_; clear n0_ n1_ n2_ n3_; (try clear hb); (try clear hkp); (try clear ho0)))
        go_roundg k2
        case measure => have := HJ2.out; have := HK2.out; omega
        case rel => exact ⟨(t271), (wrap64 (x30_2 + 1)), (by first | rfl | (simp; done) | (simp [*]; done)), H', ⟨by have := HJ2.out; have := HK2.out; omega⟩, ⟨by (with_reducible repeat (first | apply Kd.R_alloc | apply Kd.R_drewN | apply Kd.R_drew)); exact HO_3.out⟩, ⟨by (with_reducible repeat (first | apply Kd.R_alloc | apply Kd.R_drewN | apply Kd.R_drew)); exact HO273.out⟩, ⟨by (with_reducible repeat (first | refine blk_drewN ?_ _ | refine blk_drew ?_ | refine blk_alloc ?_ _)); exact aa.out⟩, ⟨by repeat (first | (with_reducible first | exact HB.out | apply below_alloc | apply pw_below_drewN | apply below_drew1 | refine below_set ?_ ad.out) | exact HB.out)⟩⟩
       ·rw [if_neg ba] at H
        exact absurd H (by simp)
      ·rw [if_neg a9] at H
       exact absurd H (by simp)
     ·rw [if_neg a7] at H
      have c16b0 : decide (x30_2 < (ae.length : Int)) = false := decide_eq_false a7
      clear a7
      replace H := Option.bind_eq_some_iff.mp H
      obtain ⟨t274, A220, H⟩ := H
      (try dsimp only at H)
      have A22 := Aside0.mk A220
      clear A220
      have HC23 := Aside0.mk H
      clear H
      obtain ⟨Ao24, co24, eo24⟩ := Kd.R_slice HO_3.out
      subst eo24
      obtain ⟨Ao25, co25, eo25⟩ := Kd.R_slice HO_4.out
      subst eo25
      go_upto_if 43 with (first | ((with_reducible refine gate_callee (f := 63) rfl ?_); refine goesL_ (some 40) rfl rfl Try.func63 (by kernel_rfl) rfl #[.slice Ao24 t264.length co24, .int .u8 64, .int .u8 2, .slice Ao25 x4_2.length co25] rfl (by (try simp only [List.map_toArray, List.map_cons, List.map_nil]); first | done | rfl) ?_; (with_reducible refine (wire_one.calls (fun k_ => some k_ = (.slice Ao24 t264.length co24 : Value).ownBlock) (.slice Ao24 t264.length co24) t264 64 2 _ _ x4_2 t274 w _ ?side1 ?side2 ?side3 ?side4 A22.out).mono ?_); (case side1 => repeat (first | (with_reducible first | exact HB.out | apply below_alloc | apply pw_below_drewN | apply below_drew1 | refine below_set ?_ ad.out) | exact HB.out)); (case side2 | side4 => first | exact Kd.R_tight rfl HO_3.out | exact (Kd.R_reads' HO_4.out).2.1); (case side3 => exact Kd.C_kept_own (HO_4.out) (fun k_ hk_ hs_ => (hk_) hs_)); rintro e w26 ⟨v275, rfl, ho0, hb, hkp⟩; refine ⟨_, rfl, ?_⟩; have n0_ := Aside0.mk (Kd.R_mono (ok' := fun k_ => some k_ ≠ (v275 : Value).ownBlock) (Kd.R_keptB (HO_4.out) hkp (fun k_ hk_ hs_ => (hk_) hs_)) (fun k_ hk_ => fun e_ => Or.elim (ho0.1 k_ e_.symm) (fun hs_ => hk_.2.1 hs_) (fun hn_ => Nat.not_le.2 hk_.2.2 hn_))); have n1_ := Aside0.mk (blk_kept (by (with_reducible repeat (first | refine blk_drewN ?_ _ | refine blk_drew ?_ | refine blk_alloc ?_ _)); exact aa.out) hkp (fun hs_ => (fun e_ => (Kd.R_ne HO_3.out aa.out (by decide)) e_) hs_)); have n2_ := Aside0.mk (Kd.R_mono (ok' := fun k_ => some k_ ≠ (.slice Ao25 x4_2.length co25 : Value).ownBlock) ho0 (fun k_ hk_ => Or.elim hk_ (fun hs_ => fun e_ => (((HO_4.out).1 k_ e_.symm)) hs_) (fun hn_ => (Kd.fresh' (Kd.R_lt (by (with_reducible repeat (first | apply Kd.R_alloc | apply Kd.R_drewN | apply Kd.R_drew)); exact HO_4.out)) k_ hn_)))); have n3_ := Aside0.mk (hb); clear HO_4; clear aa; clear HB; clear HO_3; have HO_4 := n0_; have aa := n1_; have aw := n2_; have HB := n3_; clear n0_ n1_ n2_ n3_; (try clear hb); (try clear hkp); (try clear ho0); have hcz27_0 : w26.cell? ⟨ab, 0, none⟩ = some (.int .i64 aj) := (blk_cell aa.out 0).trans rfl; have hcz27_1 : w26.cell? ⟨ab, 1, none⟩ = some (.int .i64 ah) := (blk_cell aa.out 1).trans rfl; have hcz27_2 : w26.cell? ⟨ab, 2, none⟩ = some (.int .i64 ai) := (blk_cell aa.out 2).trans rfl; have hcz27_3 : w26.cell? ⟨ab, 3, none⟩ = some (.slice an ae.length ao) := (blk_cell aa.out 3).trans rfl; have hcz27_4 : w26.cell? ⟨ab, 4, none⟩ = some (.slice au ac.length ap) := (blk_cell aa.out 4).trans rfl; have hcz27_5 : w26.cell? ⟨ab, 5, none⟩ = some (.int .i64 ag) := (blk_cell aa.out 5).trans rfl; have hcz27_6 : w26.cell? ⟨ab, 6, none⟩ = some (.slice aq af.length ar) := (blk_cell aa.out 6).trans rfl; have hfz27_0 := blk_frozen aa.out 0; have hfz27_1 := blk_frozen aa.out 1; have hfz27_2 := blk_frozen aa.out 2; have hfz27_3 := blk_frozen aa.out 3; have hfz27_4 := blk_frozen aa.out 4; have hfz27_5 := blk_frozen aa.out 5; have hfz27_6 := blk_frozen aa.out 6))
      (try simp only [Act.put, List.setIfInBounds_toArray, List.set_cons_zero, List.set_cons_succ])
      go_cut [3] (fun v3 wc => ∃ (kq : Nat) (x3_22 : List Int), Aside0 (wire_attributes.j2 kq x3_22 aj ah ai ae ac ag af = some r) ∧ Aside0 (kq ≤ k2) ∧ Aside0 (Kd.R (Kd.int .u8) 5 wc w.heap.size (fun _ => True) v3 x3_22) ∧ Aside0 (wc.heap[ab]? = some (.cells #[.int .i64 aj, .int .i64 ah, .int .i64 ai, (.slice an ae.length ao), (.slice au ac.length ap), .int .i64 ag, (.slice aq af.length ar)] 41 (0, 0))) ∧ Aside0 (Below w.heap.size w wc))
      case first =>
       have H := HC23.out
       clear HC23
       by_cases a8 : ah > 0
       ·rw [if_pos a8] at H
        have c28b0 : decide (0 < ah) = true := decide_eq_true a8
        clear a8
        (first | rw [c28b0] | (simp only [i64_w]; rw [c28b0]) | skip)
        replace H := Option.bind_eq_some_iff.mp H
        obtain ⟨t277, A290, H⟩ := H
        (try dsimp only at H)
        have A29 := Aside0.mk A290
        clear A290
        replace H := Option.bind_eq_some_iff.mp H
        obtain ⟨t280, A300, H⟩ := H
        replace H : (wire_attributes.j2 k2 t280 aj ah ai ae ac ag af) = some r := H
        have A30 := Aside0.mk A300
        clear A300
        have H' := Aside0.mk H
        clear H
        have hcz31_0 : w26.cell? ⟨ab, 0, none⟩ = some (.int .i64 aj) := (blk_cell aa.out 0).trans rfl
        have hcz31_1 : w26.cell? ⟨ab, 1, none⟩ = some (.int .i64 ah) := (blk_cell aa.out 1).trans rfl
        have hcz31_2 : w26.cell? ⟨ab, 2, none⟩ = some (.int .i64 ai) := (blk_cell aa.out 2).trans rfl
        have hcz31_3 : w26.cell? ⟨ab, 3, none⟩ = some (.slice an ae.length ao) := (blk_cell aa.out 3).trans rfl
        have hcz31_4 : w26.cell? ⟨ab, 4, none⟩ = some (.slice au ac.length ap) := (blk_cell aa.out 4).trans rfl
        have hcz31_5 : w26.cell? ⟨ab, 5, none⟩ = some (.int .i64 ag) := (blk_cell aa.out 5).trans rfl
        have hcz31_6 : w26.cell? ⟨ab, 6, none⟩ = some (.slice aq af.length ar) := (blk_cell aa.out 6).trans rfl
        have hfz31_0 := blk_frozen aa.out 0
        have hfz31_1 := blk_frozen aa.out 1
        have hfz31_2 := blk_frozen aa.out 2
        have hfz31_3 := blk_frozen aa.out 3
        have hfz31_4 := blk_frozen aa.out 4
        have hfz31_5 := blk_frozen aa.out 5
        have hfz31_6 := blk_frozen aa.out 6
        go_wp2_with (first | ((with_reducible refine gate_callee (f := 28) rfl ?_); refine goesL_ (some 47) rfl rfl Try.func28 (by kernel_rfl) rfl #[.slice none 0 0, .int .i64 ah, .int .i64 4] rfl (by (try simp only [List.map_toArray, List.map_cons, List.map_nil]); first | done | rfl) ?_; (refine (wire_number.calls k2 (fun k_ => some k_ = (.slice none 0 0 : Value).ownBlock) (.slice none 0 0) ([] : List Int) ah 4 t277 w _ ?side1 ?side2 A29.out).mono ?_); (case side1 => repeat (first | (with_reducible first | exact HB.out | apply below_alloc | apply pw_below_drewN | apply below_drew1 | refine below_set ?_ ad.out) | exact HB.out)); (case side2 => exact Kd.R_nil _ _ _ _ _); rintro e w32 ⟨v278, rfl, ho0, hb, hkp⟩; refine ⟨_, rfl, ?_⟩; have n0_ := Aside0.mk (Kd.R_mono (ok' := fun k_ => some k_ ≠ (v275 : Value).ownBlock ∧ some k_ ≠ (v278 : Value).ownBlock) (Kd.R_keptB (HO_4.out) hkp (fun k_ hk_ hs_ => (fun e_ => by simp [Value.ownBlock] at e_) hs_)) (fun k_ hk_ => ⟨hk_.1, fun e_ => Or.elim (ho0.1 k_ e_.symm) (fun hs_ => hk_.2.1 hs_) (fun hn_ => Nat.not_le.2 hk_.2.2 hn_)⟩)); have n1_ := Aside0.mk (blk_kept (by (with_reducible repeat (first | refine blk_drewN ?_ _ | refine blk_drew ?_ | refine blk_alloc ?_ _)); exact aa.out) hkp (fun hs_ => (fun e_ => by simp [Value.ownBlock] at e_) hs_)); have n2_ := Aside0.mk (Kd.R_mono (ok' := fun k_ => some k_ ≠ (.slice Ao25 x4_2.length co25 : Value).ownBlock ∧ some k_ ≠ (v278 : Value).ownBlock) (Kd.R_keptB (aw.out) hkp (fun k_ hk_ hs_ => (fun e_ => by simp [Value.ownBlock] at e_) hs_)) (fun k_ hk_ => ⟨hk_.1, fun e_ => Or.elim (ho0.1 k_ e_.symm) (fun hs_ => hk_.2.1 hs_) (fun hn_ => Nat.not_le.2 hk_.2.2 hn_)⟩)); have n3_ := Aside0.mk (Kd.R_mono (ok' := fun k_ => some k_ ≠ (.slice Ao25 x4_2.length co25 : Value).ownBlock ∧ some k_ ≠ (v275 : Value).ownBlock) ho0 (fun k_ hk_ => ⟨Or.elim hk_ (fun hs_ => absurd hs_ (by simp [Value.ownBlock])) (fun hn_ => (Kd.fresh' (Kd.R_lt (by (with_reducible repeat (first | apply Kd.R_alloc | apply Kd.R_drewN | apply Kd.R_drew)); exact HO_4.out)) k_ hn_)), Or.elim hk_ (fun hs_ => absurd hs_ (by simp [Value.ownBlock])) (fun hn_ => (Kd.fresh' (Kd.R_lt (by (with_reducible repeat (first | apply Kd.R_alloc | apply Kd.R_drewN | apply Kd.R_drew)); exact aw.out)) k_ hn_))⟩)); have n4_ := Aside0.mk (hb); clear HO_4; clear aa; clear aw; clear HB; have HO_4 := n0_; have aa := n1_; have aw := n2_; have ax := n3_; have HB := n4_; clear n0_ n1_ n2_ n3_ n4_; (try clear hb); (try clear hkp); (try clear ho0); obtain ⟨Ao33, co33, eo33⟩ := Kd.R_slice aw.out; subst eo33; obtain ⟨Ao34, co34, eo34⟩ := Kd.R_slice ax.out; subst eo34) | ((with_reducible refine gate_callee (f := 63) rfl ?_); refine goesL_ (some 48) rfl rfl Try.func63 (by kernel_rfl) rfl #[.slice Ao33 t274.length co33, .int .u8 128, .int .u8 4, .slice Ao34 t277.length co34] rfl (by (try simp only [List.map_toArray, List.map_cons, List.map_nil]); first | done | rfl) ?_; (with_reducible refine (wire_one.calls (fun k_ => some k_ = (.slice Ao33 t274.length co33 : Value).ownBlock) (.slice Ao33 t274.length co33) t274 128 4 _ _ t277 t280 w _ ?side1 ?side2 ?side3 ?side4 A30.out).mono ?_); (case side1 => repeat (first | (with_reducible first | exact HB.out | apply below_alloc | apply pw_below_drewN | apply below_drew1 | refine below_set ?_ ad.out) | exact HB.out)); (case side2 | side4 => first | exact Kd.R_tight rfl aw.out | exact (Kd.R_reads' ax.out).2.1); (case side3 => exact Kd.C_kept_own (ax.out) (fun k_ hk_ hs_ => (hk_.2) hs_)); rintro e w35 ⟨v281, rfl, ho0, hb, hkp⟩; refine ⟨_, rfl, ?_⟩; have n0_ := Aside0.mk (Kd.R_mono (ok' := fun k_ => some k_ ≠ (.slice Ao34 t277.length co34 : Value).ownBlock ∧ some k_ ≠ (v281 : Value).ownBlock) (Kd.R_keptB (HO_4.out) hkp (fun k_ hk_ hs_ => (hk_.1) hs_)) (fun k_ hk_ => ⟨hk_.1.2, fun e_ => Or.elim (ho0.1 k_ e_.symm) (fun hs_ => hk_.2.1 hs_) (fun hn_ => Nat.not_le.2 hk_.2.2 hn_)⟩)); have n1_ := Aside0.mk (blk_kept (by (with_reducible repeat (first | refine blk_drewN ?_ _ | refine blk_drew ?_ | refine blk_alloc ?_ _)); exact aa.out) hkp (fun hs_ => (fun e_ => (Kd.R_ne aw.out aa.out (by decide)) e_) hs_)); have n2_ := Aside0.mk (Kd.R_mono (ok' := fun k_ => some k_ ≠ (.slice Ao25 x4_2.length co25 : Value).ownBlock ∧ some k_ ≠ (v281 : Value).ownBlock) (Kd.R_keptB (ax.out) hkp (fun k_ hk_ hs_ => (hk_.2) hs_)) (fun k_ hk_ => ⟨hk_.1.1, fun e_ => Or.elim (ho0.1 k_ e_.symm) (fun hs_ => hk_.2.1 hs_) (fun hn_ => Nat.not_le.2 hk_.2.2 hn_)⟩)); have n3_ := Aside0.mk (Kd.R_mono (ok' := fun k_ => some k_ ≠ (.slice Ao25 x4_2.length co25 : Value).ownBlock ∧ some k_ ≠ (.slice Ao34 t277.length co34 : Value).ownBlock) ho0 (fun k_ hk_ => ⟨Or.elim hk_ (fun hs_ => fun e_ => (((HO_4.out).1 k_ e_.symm).1) hs_) (fun hn_ => (Kd.fresh' (Kd.R_lt (by (with_reducible repeat (first | apply Kd.R_alloc | apply Kd.R_drewN | apply Kd.R_drew)); exact HO_4.out)) k_ hn_)), Or.elim hk_ (fun hs_ => fun e_ => (((ax.out).1 k_ e_.symm).2) hs_) (fun hn_ => (Kd.fresh' (Kd.R_lt (by (with_reducible repeat (first | apply Kd.R_alloc | apply Kd.R_drewN | apply Kd.R_drew)); exact ax.out)) k_ hn_))⟩)); have n4_ := Aside0.mk (hb); clear HO_4; clear aa; clear ax; clear HB; clear aw; have HO_4 := n0_; have aa := n1_; have ax := n2_; have HO282 := n3_; have HB := n4_; clear n0_ n1_ n2_ n3_ n4_; (try clear hb); (try clear hkp); (try clear ho0)))
        go_meet
        case rel => exact ⟨_, (t280), H', ⟨by have := HJ2.out; have := HK2.out; first | omega | exact Nat.le_refl _⟩, ⟨by (with_reducible repeat (first | apply Kd.R_alloc | apply Kd.R_drewN | apply Kd.R_drew)); exact Kd.R_mono HO282.out (fun _ hk => trivial)⟩, ⟨by (with_reducible repeat (first | refine blk_drewN ?_ _ | refine blk_drew ?_ | refine blk_alloc ?_ _)); exact aa.out⟩, ⟨by repeat (first | (with_reducible first | exact HB.out | apply below_alloc | apply pw_below_drewN | apply below_drew1 | refine below_set ?_ ad.out) | exact HB.out)⟩⟩
       ·rw [if_neg a8] at H
        have c28b0 : decide (0 < ah) = false := decide_eq_false a8
        clear a8
        (first | rw [c28b0] | (simp only [i64_w]; rw [c28b0]) | skip)
        have H' := Aside0.mk H
        clear H
        go_wp2
        go_meet
        case rel => exact ⟨_, (t274), H', ⟨by have := HJ2.out; have := HK2.out; first | omega | exact Nat.le_refl _⟩, ⟨by (with_reducible repeat (first | apply Kd.R_alloc | apply Kd.R_drewN | apply Kd.R_drew)); exact Kd.R_mono aw.out (fun _ hk => trivial)⟩, ⟨by (with_reducible repeat (first | refine blk_drewN ?_ _ | refine blk_drew ?_ | refine blk_alloc ?_ _)); exact aa.out⟩, ⟨by repeat (first | (with_reducible first | exact HB.out | apply below_alloc | apply pw_below_drewN | apply below_drew1 | refine below_set ?_ ad.out) | exact HB.out)⟩⟩
      case rest =>
       clear HC23
       try clear c1
       try clear c2
       try clear p2
       try clear q2
       try clear hx2
       try clear c3
       try clear c6
       try clear p6
       try clear az
       try clear c11b0
       try clear c11b1
       try clear a7
       try clear c16b0
       try clear a9
       try clear c17b0
       try clear ba
       try clear c18b0
       try clear p27
       try clear q27
       try clear hx27
       try clear a8
       try clear c28b0
       try clear hcz10_0
       try clear hcz10_1
       try clear hcz10_2
       try clear hcz10_3
       try clear hcz10_4
       try clear hcz10_5
       try clear hcz10_6
       try clear hcz12_0
       try clear hcz12_1
       try clear hcz12_2
       try clear hcz12_3
       try clear hcz12_4
       try clear hcz12_5
       try clear hcz12_6
       try clear hcz15_0
       try clear hcz15_1
       try clear hcz15_2
       try clear hcz15_3
       try clear hcz15_4
       try clear hcz15_5
       try clear hcz15_6
       try clear hcz27_0
       try clear hcz27_1
       try clear hcz27_2
       try clear hcz27_3
       try clear hcz27_4
       try clear hcz27_5
       try clear hcz27_6
       try clear hcz31_0
       try clear hcz31_1
       try clear hcz31_2
       try clear hcz31_3
       try clear hcz31_4
       try clear hcz31_5
       try clear hcz31_6
       try clear hcz5_0
       try clear hcz5_1
       try clear hcz5_2
       try clear hcz5_3
       try clear hcz5_4
       try clear hcz5_5
       try clear hcz5_6
       try clear hfz10_0
       try clear hfz10_1
       try clear hfz10_2
       try clear hfz10_3
       try clear hfz10_4
       try clear hfz10_5
       try clear hfz10_6
       try clear hfz12_0
       try clear hfz12_1
       try clear hfz12_2
       try clear hfz12_3
       try clear hfz12_4
       try clear hfz12_5
       try clear hfz12_6
       try clear hfz15_0
       try clear hfz15_1
       try clear hfz15_2
       try clear hfz15_3
       try clear hfz15_4
       try clear hfz15_5
       try clear hfz15_6
       try clear hfz27_0
       try clear hfz27_1
       try clear hfz27_2
       try clear hfz27_3
       try clear hfz27_4
       try clear hfz27_5
       try clear hfz27_6
       try clear hfz31_0
       try clear hfz31_1
       try clear hfz31_2
       try clear hfz31_3
       try clear hfz31_4
       try clear hfz31_5
       try clear hfz31_6
       try clear hfz5_0
       try clear hfz5_1
       try clear hfz5_2
       try clear hfz5_3
       try clear hfz5_4
       try clear hfz5_5
       try clear hfz5_6
       try clear hx270_0
       try clear p2
       try clear p270
       try clear q270
       obtain ⟨kq, x3_22, HA, HJ22, HO_3, aa, HB⟩ := hcut
       cases kq with
       | zero => exact absurd HA.out (by simp [wire_attributes.j2])
       | succ kj22 =>
        have H := HA.out
        clear HA
        simp only [wire_attributes.j2] at H
        replace H := Option.bind_eq_some_iff.mp H
        obtain ⟨t283, A360, H⟩ := H
        (try dsimp only at H)
        have A36 := Aside0.mk A360
        clear A360
        replace H := Option.bind_eq_some_iff.mp H
        obtain ⟨t286, A370, H⟩ := H
        (try dsimp only at H)
        have A37 := Aside0.mk A370
        clear A370
        have H' := Aside0.mk H
        clear H
        have hcz38_0 : wc.cell? ⟨ab, 0, none⟩ = some (.int .i64 aj) := (blk_cell aa.out 0).trans rfl
        have hcz38_1 : wc.cell? ⟨ab, 1, none⟩ = some (.int .i64 ah) := (blk_cell aa.out 1).trans rfl
        have hcz38_2 : wc.cell? ⟨ab, 2, none⟩ = some (.int .i64 ai) := (blk_cell aa.out 2).trans rfl
        have hcz38_3 : wc.cell? ⟨ab, 3, none⟩ = some (.slice an ae.length ao) := (blk_cell aa.out 3).trans rfl
        have hcz38_4 : wc.cell? ⟨ab, 4, none⟩ = some (.slice au ac.length ap) := (blk_cell aa.out 4).trans rfl
        have hcz38_5 : wc.cell? ⟨ab, 5, none⟩ = some (.int .i64 ag) := (blk_cell aa.out 5).trans rfl
        have hcz38_6 : wc.cell? ⟨ab, 6, none⟩ = some (.slice aq af.length ar) := (blk_cell aa.out 6).trans rfl
        have hfz38_0 := blk_frozen aa.out 0
        have hfz38_1 := blk_frozen aa.out 1
        have hfz38_2 := blk_frozen aa.out 2
        have hfz38_3 := blk_frozen aa.out 3
        have hfz38_4 := blk_frozen aa.out 4
        have hfz38_5 := blk_frozen aa.out 5
        have hfz38_6 := blk_frozen aa.out 6
        go_wp2_with (first | ((with_reducible refine gate_callee (f := 28) rfl ?_); refine goesL_ (some 52) rfl rfl Try.func28 (by kernel_rfl) rfl #[.slice none 0 0, .int .i64 aj, .int .i64 4] rfl (by (try simp only [List.map_toArray, List.map_cons, List.map_nil]); first | done | rfl) ?_; (refine (wire_number.calls kj22 (fun k_ => some k_ = (.slice none 0 0 : Value).ownBlock) (.slice none 0 0) ([] : List Int) aj 4 t283 w _ ?side1 ?side2 A36.out).mono ?_); (case side1 => repeat (first | (with_reducible first | exact HB.out | apply below_alloc | apply pw_below_drewN | apply below_drew1 | refine below_set ?_ ad.out) | exact HB.out)); (case side2 => exact Kd.R_nil _ _ _ _ _); rintro e w39 ⟨v284, rfl, ho0, hb, hkp⟩; refine ⟨_, rfl, ?_⟩; have n0_ := Aside0.mk (Kd.R_mono (ok' := fun k_ => some k_ ≠ (v284 : Value).ownBlock) (Kd.R_keptB (HO_3.out) hkp (fun k_ hk_ hs_ => (fun e_ => by simp [Value.ownBlock] at e_) hs_)) (fun k_ hk_ => fun e_ => Or.elim (ho0.1 k_ e_.symm) (fun hs_ => hk_.2.1 hs_) (fun hn_ => Nat.not_le.2 hk_.2.2 hn_))); have n1_ := Aside0.mk (blk_kept (by (with_reducible repeat (first | refine blk_drewN ?_ _ | refine blk_drew ?_ | refine blk_alloc ?_ _)); exact aa.out) hkp (fun hs_ => (fun e_ => by simp [Value.ownBlock] at e_) hs_)); have n2_ := Aside0.mk (Kd.R_mono (ok' := fun k_ => some k_ ≠ (u3 : Value).ownBlock) ho0 (fun k_ hk_ => Or.elim hk_ (fun hs_ => absurd hs_ (by simp [Value.ownBlock])) (fun hn_ => (Kd.fresh' (Kd.R_lt (by (with_reducible repeat (first | apply Kd.R_alloc | apply Kd.R_drewN | apply Kd.R_drew)); exact HO_3.out)) k_ hn_)))); have n3_ := Aside0.mk (hb); clear HO_3; clear aa; clear HB; have HO_3 := n0_; have aa := n1_; have ay := n2_; have HB := n3_; clear n0_ n1_ n2_ n3_; (try clear hb); (try clear hkp); (try clear ho0); obtain ⟨Ao40, co40, eo40⟩ := Kd.R_slice HO_3.out; subst eo40; obtain ⟨Ao41, co41, eo41⟩ := Kd.R_slice ay.out; subst eo41) | ((with_reducible refine gate_callee (f := 63) rfl ?_); refine goesL_ (some 53) rfl rfl Try.func63 (by kernel_rfl) rfl #[.slice Ao40 x3_22.length co40, .int .u8 64, .int .u8 5, .slice Ao41 t283.length co41] rfl (by (try simp only [List.map_toArray, List.map_cons, List.map_nil]); first | done | rfl) ?_; (with_reducible refine (wire_one.calls (fun k_ => some k_ = (.slice Ao40 x3_22.length co40 : Value).ownBlock) (.slice Ao40 x3_22.length co40) x3_22 64 5 _ _ t283 t286 w _ ?side1 ?side2 ?side3 ?side4 A37.out).mono ?_); (case side1 => repeat (first | (with_reducible first | exact HB.out | apply below_alloc | apply pw_below_drewN | apply below_drew1 | refine below_set ?_ ad.out) | exact HB.out)); (case side2 | side4 => first | exact Kd.R_tight rfl HO_3.out | exact (Kd.R_reads' ay.out).2.1); (case side3 => exact Kd.C_kept_own (ay.out) (fun k_ hk_ hs_ => (hk_) hs_)); rintro e w42 ⟨v287, rfl, ho0, hb, hkp⟩; refine ⟨_, rfl, ?_⟩; have n0_ := Aside0.mk (blk_kept (by (with_reducible repeat (first | refine blk_drewN ?_ _ | refine blk_drew ?_ | refine blk_alloc ?_ _)); exact aa.out) hkp (fun hs_ => (fun e_ => (Kd.R_ne HO_3.out aa.out (by decide)) e_) hs_)); have n1_ := Aside0.mk (Kd.R_mono (ok' := fun k_ => some k_ ≠ (v287 : Value).ownBlock) (Kd.R_keptB (ay.out) hkp (fun k_ hk_ hs_ => (hk_) hs_)) (fun k_ hk_ => fun e_ => Or.elim (ho0.1 k_ e_.symm) (fun hs_ => hk_.2.1 hs_) (fun hn_ => Nat.not_le.2 hk_.2.2 hn_))); have n2_ := Aside0.mk (Kd.R_mono (ok' := fun k_ => some k_ ≠ (.slice Ao41 t283.length co41 : Value).ownBlock) ho0 (fun k_ hk_ => Or.elim hk_ (fun hs_ => fun e_ => (((ay.out).1 k_ e_.symm)) hs_) (fun hn_ => (Kd.fresh' (Kd.R_lt (by (with_reducible repeat (first | apply Kd.R_alloc | apply Kd.R_drewN | apply Kd.R_drew)); exact ay.out)) k_ hn_)))); have n3_ := Aside0.mk (hb); clear aa; clear ay; clear HB; clear HO_3; have aa := n0_; have ay := n1_; have HO288 := n2_; have HB := n3_; clear n0_ n1_ n2_ n3_; (try clear hb); (try clear hkp); (try clear ho0); have hcz43_0 : w42.cell? ⟨ab, 0, none⟩ = some (.int .i64 aj) := (blk_cell aa.out 0).trans rfl; have hcz43_1 : w42.cell? ⟨ab, 1, none⟩ = some (.int .i64 ah) := (blk_cell aa.out 1).trans rfl; have hcz43_2 : w42.cell? ⟨ab, 2, none⟩ = some (.int .i64 ai) := (blk_cell aa.out 2).trans rfl; have hcz43_3 : w42.cell? ⟨ab, 3, none⟩ = some (.slice an ae.length ao) := (blk_cell aa.out 3).trans rfl; have hcz43_4 : w42.cell? ⟨ab, 4, none⟩ = some (.slice au ac.length ap) := (blk_cell aa.out 4).trans rfl; have hcz43_5 : w42.cell? ⟨ab, 5, none⟩ = some (.int .i64 ag) := (blk_cell aa.out 5).trans rfl; have hcz43_6 : w42.cell? ⟨ab, 6, none⟩ = some (.slice aq af.length ar) := (blk_cell aa.out 6).trans rfl; have hfz43_0 := blk_frozen aa.out 0; have hfz43_1 := blk_frozen aa.out 1; have hfz43_2 := blk_frozen aa.out 2; have hfz43_3 := blk_frozen aa.out 3; have hfz43_4 := blk_frozen aa.out 4; have hfz43_5 := blk_frozen aa.out 5; have hfz43_6 := blk_frozen aa.out 6))
        go_loopg [7, 57] kj22 (fun kq v7 v57 w' => ∃ (x7_4 : List Int) (x57_4 : Int), v57 = .int .i64 x57_4 ∧ Aside0 (wire_attributes.l1 kq t286 x7_4 ac (ac.length : Int) x57_4 aj ah ai ae ac ag af = some r) ∧ Aside0 (kq ≤ kj22) ∧ Aside0 (Kd.R (Kd.int .u8) 5 w' w.heap.size (fun k_ => some k_ ≠ (v7 : Value).ownBlock) v287 t286) ∧ Aside0 (Kd.R (Kd.int .u8) 5 w' w.heap.size (fun k_ => some k_ ≠ (v287 : Value).ownBlock) v7 x7_4) ∧ Aside0 (w'.heap[ab]? = some (.cells #[.int .i64 aj, .int .i64 ah, .int .i64 ai, (.slice an ae.length ao), (.slice au ac.length ap), .int .i64 ag, (.slice aq af.length ar)] 41 (0, 0))) ∧ Aside0 (Below w.heap.size w w'))
        case atStart => exact ⟨(([] : List Int)), (0), (by first | rfl | (simp; done) | (simp [*]; done)), H', ⟨Nat.le_refl _⟩, ⟨by (with_reducible repeat (first | apply Kd.R_alloc | apply Kd.R_drewN | apply Kd.R_drew)); exact Kd.R_mono HO288.out (fun _ hk => (by simp [Value.ownBlock]))⟩, ⟨by first | exact Kd.R_nil _ _ _ _ _ | exact Kd.N_nil _ _ _ _ _ | exact Kd.V_nil _ _ _ _ _ | exact Kd.Q_nil _ _ _ _ _ | exact Kd.S_nil _ _ _ _ _⟩, ⟨by (with_reducible repeat (first | refine blk_drewN ?_ _ | refine blk_drew ?_ | refine blk_alloc ?_ _)); exact aa.out⟩, ⟨by repeat (first | (with_reducible first | exact HB.out | apply below_alloc | apply pw_below_drewN | apply below_drew1 | refine below_set ?_ ad.out) | exact HB.out)⟩⟩
        case round =>
         clear H'
         try clear c1
         try clear c2
         try clear p2
         try clear q2
         try clear hx2
         try clear c3
         try clear c6
         try clear p6
         try clear az
         try clear c11b0
         try clear c11b1
         try clear a7
         try clear c16b0
         try clear a9
         try clear c17b0
         try clear ba
         try clear c18b0
         try clear p27
         try clear q27
         try clear hx27
         try clear a8
         try clear c28b0
         try clear c36
         try clear hcz10_0
         try clear hcz10_1
         try clear hcz10_2
         try clear hcz10_3
         try clear hcz10_4
         try clear hcz10_5
         try clear hcz10_6
         try clear hcz12_0
         try clear hcz12_1
         try clear hcz12_2
         try clear hcz12_3
         try clear hcz12_4
         try clear hcz12_5
         try clear hcz12_6
         try clear hcz15_0
         try clear hcz15_1
         try clear hcz15_2
         try clear hcz15_3
         try clear hcz15_4
         try clear hcz15_5
         try clear hcz15_6
         try clear hcz27_0
         try clear hcz27_1
         try clear hcz27_2
         try clear hcz27_3
         try clear hcz27_4
         try clear hcz27_5
         try clear hcz27_6
         try clear hcz31_0
         try clear hcz31_1
         try clear hcz31_2
         try clear hcz31_3
         try clear hcz31_4
         try clear hcz31_5
         try clear hcz31_6
         try clear hcz38_0
         try clear hcz38_1
         try clear hcz38_2
         try clear hcz38_3
         try clear hcz38_4
         try clear hcz38_5
         try clear hcz38_6
         try clear hcz43_0
         try clear hcz43_1
         try clear hcz43_2
         try clear hcz43_3
         try clear hcz43_4
         try clear hcz43_5
         try clear hcz43_6
         try clear hcz5_0
         try clear hcz5_1
         try clear hcz5_2
         try clear hcz5_3
         try clear hcz5_4
         try clear hcz5_5
         try clear hcz5_6
         try clear hfz10_0
         try clear hfz10_1
         try clear hfz10_2
         try clear hfz10_3
         try clear hfz10_4
         try clear hfz10_5
         try clear hfz10_6
         try clear hfz12_0
         try clear hfz12_1
         try clear hfz12_2
         try clear hfz12_3
         try clear hfz12_4
         try clear hfz12_5
         try clear hfz12_6
         try clear hfz15_0
         try clear hfz15_1
         try clear hfz15_2
         try clear hfz15_3
         try clear hfz15_4
         try clear hfz15_5
         try clear hfz15_6
         try clear hfz27_0
         try clear hfz27_1
         try clear hfz27_2
         try clear hfz27_3
         try clear hfz27_4
         try clear hfz27_5
         try clear hfz27_6
         try clear hfz31_0
         try clear hfz31_1
         try clear hfz31_2
         try clear hfz31_3
         try clear hfz31_4
         try clear hfz31_5
         try clear hfz31_6
         try clear hfz38_0
         try clear hfz38_1
         try clear hfz38_2
         try clear hfz38_3
         try clear hfz38_4
         try clear hfz38_5
         try clear hfz38_6
         try clear hfz43_0
         try clear hfz43_1
         try clear hfz43_2
         try clear hfz43_3
         try clear hfz43_4
         try clear hfz43_5
         try clear hfz43_6
         try clear hfz5_0
         try clear hfz5_1
         try clear hfz5_2
         try clear hfz5_3
         try clear hfz5_4
         try clear hfz5_5
         try clear hfz5_6
         try clear hx270_0
         try clear p2
         try clear p27
         try clear p270
         try clear p6
         try clear q2
         try clear q27
         try clear q270
         obtain ⟨x7_4, x57_4, rfl, HA, HK4, HO_3, HO_7, aa, HB⟩ := hrel
         cases gk with
         | zero => exact absurd HA.out (by simp [wire_attributes.l1])
         | succ k4 =>
          have H := HA.out
          clear HA
          simp only [wire_attributes.l1] at H
          by_cases bb : x57_4 < (ac.length : Int)
          ·rw [if_pos bb] at H
           have c44b0 : decide (x57_4 < (ac.length : Int)) = true := decide_eq_true bb
           clear bb
           by_cases c45 : 0 ≤ x57_4
           ·rw [if_pos c45] at H
            have c45b0 : decide (0 ≤ x57_4) = true := decide_eq_true c45
            clear c45
            by_cases c46 : x57_4 < (ac.length : Int)
            ·rw [if_pos c46] at H
             have c46b0 : decide (x57_4 < (ac.length : Int)) = true := decide_eq_true c46
             clear c46
             replace H := Option.bind_eq_some_iff.mp H
             obtain ⟨t291, A470, H⟩ := H
             (try dsimp only at H)
             have A47 := Aside0.mk A470
             clear A470
             replace H := Option.bind_eq_some_iff.mp H
             obtain ⟨t294, A480, H⟩ := H
             (try dsimp only at H)
             have A48 := Aside0.mk A480
             clear A480
             have H' := Aside0.mk H
             clear H
             have p289 : 0 ≤ (x57_4 : Int) := of_decide_eq_true (by first | (with_reducible assumption) | assumption)
             have q289 : x57_4 < (ac.length : Int) := of_decide_eq_true (by first | (with_reducible assumption) | assumption)
             obtain ⟨ad289, e289, hx289_0, hx289_1⟩ := at_T102 HR0_4.out x57_4 p289 q289
             (try (injection e289 with e289; replace e289 := e289.symm; subst e289; have e289 : True := trivial))
             cases e289
             replace hx289_0 := (HB.out.cell (World.block_lt_of_cell? w _ hx289_0)).trans hx289_0
             replace hx289_1 := (HB.out.cell (World.block_lt_of_cell? w _ hx289_1)).trans hx289_1
             replace p289 := eq_true p289
             replace q289 := eq_true q289
             try go_wp2_with (first | ((with_reducible refine gate_dst (N := 10) rfl ?_); refine box_event ?hg (N := 10) ?hd (cs := #[.int .i64 0, .int .i64 0]) (t := 102) ?hr ?_; (case hd => rfl); (case hg => rfl); (case hr => first | (go_simp; done) | (go_simp; rfl)); intro ak hg w49 hbox hb; have n0_ := Aside0.mk (Kd.R_below (by (with_reducible repeat (first | apply Kd.R_alloc | apply Kd.R_drewN | apply Kd.R_drew)); exact HO_3.out) hb); have n1_ := Aside0.mk (Kd.R_below (by (with_reducible repeat (first | apply Kd.R_alloc | apply Kd.R_drewN | apply Kd.R_drew)); exact HO_7.out) hb); have n2_ := Aside0.mk (blk_below (g := ab) (by (with_reducible repeat (first | refine blk_drewN ?_ _ | refine blk_drew ?_ | refine blk_alloc ?_ _)); exact aa.out) hb); have n3_ := Aside0.mk (below_step (by repeat (first | (with_reducible first | exact HB.out | apply below_alloc | apply pw_below_drewN | apply below_drew1 | refine below_set ?_ ad.out) | exact HB.out)) hb); have n4_ := Aside0.mk (hbox); have n5_ := Aside0.mk ((by rw [hg]; exact (below_size (by repeat (first | (with_reducible first | exact HB.out | apply below_alloc | apply pw_below_drewN | apply below_drew1 | refine below_set ?_ ad.out) | exact HB.out))) : w.heap.size ≤ ak)); have n6_ := Aside0.mk ((by rw [hg]; exact (below_size (by repeat (first | (with_reducible first | exact HB.out | apply below_alloc | apply pw_below_drewN | apply below_drew1 | refine below_set ?_ ad.out) | exact HB.out))) : w.heap.size ≤ ak)); have n7_ := Aside0.mk ((by rw [hg]; exact Nat.ne_of_lt (blk_lt (g := ab) (o := .cells #[.int .i64 aj, .int .i64 ah, .int .i64 ai, .slice an ae.length ao, .slice (some ad289) ac.length ap, .int .i64 ag, .slice aq af.length ar] 41 (0, 0)) (by (with_reducible repeat (first | refine blk_drewN ?_ _ | refine blk_drew ?_ | refine blk_alloc ?_ _)); exact aa.out)) : ab ≠ ak)); have n8_ := Aside0.mk ((by rw [hg]; exact Nat.ne_of_gt (blk_lt (g := ab) (o := .cells #[.int .i64 aj, .int .i64 ah, .int .i64 ai, .slice an ae.length ao, .slice (some ad289) ac.length ap, .int .i64 ag, .slice aq af.length ar] 41 (0, 0)) (by (with_reducible repeat (first | refine blk_drewN ?_ _ | refine blk_drew ?_ | refine blk_alloc ?_ _)); exact aa.out)) : ak ≠ ab)); clear HO_3; clear HO_7; clear aa; clear HB; have HO_3 := n0_; have HO_7 := n1_; have aa := n2_; have HB := n3_; have al := n4_; have GW290 := n5_; have GE290 := n6_; have NB260_290 := n7_; have NB290_260 := n8_; clear n0_ n1_ n2_ n3_ n4_ n5_ n6_ n7_ n8_; clear hb hbox hg; have hnb50 := NB290_260.out; have hnc50 := NB260_290.out; have hcz51_0 : w49.cell? ⟨ak, 0, none⟩ = some (.int .i64 0) := (blk_cell al.out 0).trans rfl; have hcz51_1 : w49.cell? ⟨ak, 1, none⟩ = some (.int .i64 0) := (blk_cell al.out 1).trans rfl; have hfz51_0 := blk_frozen al.out 0; have hfz51_1 := blk_frozen al.out 1))
             have n0_ : Aside0 (Kd.R (Kd.int .u8) 5 ((w49.setCell ⟨ak, 0, none⟩ (.int .i64 ((rd_T102 ac x57_4).f0))).setCell ⟨ak, 1, none⟩ (.int .i64 ((rd_T102 ac x57_4).f1))) w.heap.size (fun k_ => some k_ ≠ (u7 : Value).ownBlock) v287 t286) := ⟨by (with_reducible repeat (first | apply Kd.R_alloc | apply Kd.R_drewN | apply Kd.R_drew)); exact Kd.R_mono (Kd.R_far (p := ⟨ak, 1, none⟩) (Kd.R_far (p := ⟨ak, 0, none⟩) (Kd.R_types HO_3.out al.out (by decide)) (fun _ hk => hk.2) (.int .i64 ((rd_T102 ac x57_4).f0))) (fun _ hk => hk.2) (.int .i64 ((rd_T102 ac x57_4).f1))) (fun _ hk => hk.1)⟩
             have n1_ : Aside0 (Kd.R (Kd.int .u8) 5 ((w49.setCell ⟨ak, 0, none⟩ (.int .i64 ((rd_T102 ac x57_4).f0))).setCell ⟨ak, 1, none⟩ (.int .i64 ((rd_T102 ac x57_4).f1))) w.heap.size (fun k_ => some k_ ≠ (v287 : Value).ownBlock) u7 x7_4) := ⟨by (with_reducible repeat (first | apply Kd.R_alloc | apply Kd.R_drewN | apply Kd.R_drew)); exact Kd.R_mono (Kd.R_far (p := ⟨ak, 1, none⟩) (Kd.R_far (p := ⟨ak, 0, none⟩) (Kd.R_types HO_7.out al.out (by decide)) (fun _ hk => hk.2) (.int .i64 ((rd_T102 ac x57_4).f0))) (fun _ hk => hk.2) (.int .i64 ((rd_T102 ac x57_4).f1))) (fun _ hk => hk.1)⟩
             have n2_ : Aside0 (((w49.setCell ⟨ak, 0, none⟩ (.int .i64 ((rd_T102 ac x57_4).f0))).setCell ⟨ak, 1, none⟩ (.int .i64 ((rd_T102 ac x57_4).f1))).heap[ab]? = some (.cells #[.int .i64 aj, .int .i64 ah, .int .i64 ai, .slice an ae.length ao, .slice (some ad289) ac.length ap, .int .i64 ag, .slice aq af.length ar] 41 (0, 0))) := ⟨by (with_reducible repeat (first | refine blk_drewN ?_ _ | refine blk_drew ?_ | refine blk_alloc ?_ _)); refine blk_far ?_ NB260_290.out _; (with_reducible repeat (first | refine blk_drewN ?_ _ | refine blk_drew ?_ | refine blk_alloc ?_ _)); refine blk_far ?_ NB260_290.out _; (with_reducible repeat (first | refine blk_drewN ?_ _ | refine blk_drew ?_ | refine blk_alloc ?_ _)); exact aa.out⟩
             have n3_ : Aside0 (((w49.setCell ⟨ak, 0, none⟩ (.int .i64 ((rd_T102 ac x57_4).f0))).setCell ⟨ak, 1, none⟩ (.int .i64 ((rd_T102 ac x57_4).f1))).heap[ak]? = some (.cells #[.int .i64 ((rd_T102 ac x57_4).f0), .int .i64 ((rd_T102 ac x57_4).f1)] 102 (0, 0))) := ⟨by (with_reducible repeat (first | refine blk_drewN ?_ _ | refine blk_drew ?_ | refine blk_alloc ?_ _)); refine blk_put (cs := #[.int .i64 ((rd_T102 ac x57_4).f0), .int .i64 0]) ?_ 1 _ (by first | rfl | (simp; done) | (simp; omega)); (with_reducible repeat (first | refine blk_drewN ?_ _ | refine blk_drew ?_ | refine blk_alloc ?_ _)); refine blk_put (cs := #[.int .i64 0, .int .i64 0]) ?_ 0 _ (by first | rfl | (simp; done) | (simp; omega)); (with_reducible repeat (first | refine blk_drewN ?_ _ | refine blk_drew ?_ | refine blk_alloc ?_ _)); exact al.out⟩
             have n4_ : Aside0 (Below w.heap.size w ((w49.setCell ⟨ak, 0, none⟩ (.int .i64 ((rd_T102 ac x57_4).f0))).setCell ⟨ak, 1, none⟩ (.int .i64 ((rd_T102 ac x57_4).f1)))) := ⟨by repeat (first | (with_reducible first | exact HB.out | apply below_alloc | apply pw_below_drewN | apply below_drew1 | refine below_set ?_ ad.out | refine below_set ?_ GE290.out) | exact HB.out)⟩
             (try clear HO_3)
             (try clear HO_7)
             (try clear aa)
             (try clear al)
             (try clear HB)
             generalize ((w49.setCell ⟨ak, 0, none⟩ (.int .i64 ((rd_T102 ac x57_4).f0))).setCell ⟨ak, 1, none⟩ (.int .i64 ((rd_T102 ac x57_4).f1))) = w52 at n0_ n1_ n2_ n3_ n4_ ⊢
             have HO_3 := n0_
             have HO_7 := n1_
             have aa := n2_
             have al := n3_
             have HB := n4_
             clear n0_ n1_ n2_ n3_ n4_
             replace HO_3 := Aside0.mk (Kd.R_drew HO_3.out)
             replace HO_7 := Aside0.mk (Kd.R_drew HO_7.out)
             replace aa := Aside0.mk (blk_drew aa.out)
             replace al := Aside0.mk (blk_drew al.out)
             replace HB := Aside0.mk (below_drew1 HB.out)
             obtain ⟨Ao54, co54, eo54⟩ := Kd.R_slice HO_7.out
             (first | subst eo54 | (injection eo54 with f1_ f2_ f3_; have f4_ := f1_.symm; have f5_ := f3_.symm; clear f1_ f2_ f3_; subst f4_; subst f5_))
             refine start_ (n := 8) (S := fun w' => w'.cell? ⟨ak, 0, none⟩ = some (.int .i64 ((rd_T102 ac x57_4).f0)) ∧ w'.cell? ⟨ak, 1, none⟩ = some (.int .i64 ((rd_T102 ac x57_4).f1))) (ds := []) #[false, false, false, false, false, false, false, false] (by kernel_rfl) rfl rfl (k0567.b2e al.out) (fun hHeld => ?_); refine with_tabW wire_attributes.tab18 wire_attributes.bits18 (fun HT_ HW_ => ?_)
             generalize w52.drew = w53 at HO_3 HO_7 aa al HB hHeld ⊢
             refine pure_ (i := 0) (N := some 61) (v := ?_) (a' := ?_) #[true, false, false, false, false, false, false, false] rfl rfl (any_of HT_.out (by kernel_rfl)) (fun _ _ _ h => h) (Or.inl ⟨by rfl, ?_⟩) ?_ ?_
             rotate_left
             ·intro w'
              go_simp
              with_reducible rfl
             rotate_left
             ·simp only [Act.put, List.setIfInBounds_toArray, List.set_cons_zero, List.set_cons_succ, i64_w]
              rfl
             refine pure_ (i := 1) (N := some 62) (v := ?_) (a' := ?_) #[true, true, false, false, false, false, false, false] rfl rfl (any_of HT_.out (by kernel_rfl)) (fun _ _ _ h => h) (Or.inl ⟨by rfl, ?_⟩) ?_ ?_
             rotate_left
             ·intro w'
              go_simp
              with_reducible rfl
             rotate_left
             ·simp only [Act.put, List.setIfInBounds_toArray, List.set_cons_zero, List.set_cons_succ, i64_w]
              rfl
             refine pure_ (i := 4) (N := some 65) (v := ?_) (a' := ?_) #[true, true, false, false, true, false, false, false] rfl rfl (any_of HT_.out (by kernel_rfl)) (fun _ _ _ h => h) (Or.inl ⟨by rfl, ?_⟩) ?_ ?_
             rotate_left
             ·intro w'
              go_simp
              with_reducible rfl
             rotate_left
             ·simp only [Act.put, List.setIfInBounds_toArray, List.set_cons_zero, List.set_cons_succ, i64_w]
              rfl
             refine take_ (i := 2) (N := some 63) (v := ?_) (a' := ?_) #[true, true, true, false, true, false, false, false] rfl rfl (take_ofW HT_.out HW_.out (by kernel_rfl)) (fun _ _ _ h => h) (Or.inl ⟨by rfl, ?_⟩) hHeld ?_ ?_
             rotate_left
             ·rintro w' ⟨s0, s1⟩
              go_simp
              with_reducible rfl
             rotate_left
             ·simp only [Act.put, List.setIfInBounds_toArray, List.set_cons_zero, List.set_cons_succ, i64_w]
              rfl
             refine take_ (i := 5) (N := some 66) (v := ?_) (a' := ?_) #[true, true, true, false, true, true, false, false] rfl rfl (take_ofW HT_.out HW_.out (by kernel_rfl)) (fun _ _ _ h => h) (Or.inl ⟨by rfl, ?_⟩) hHeld ?_ ?_
             rotate_left
             ·rintro w' ⟨s0, s1⟩
              go_simp
              with_reducible rfl
             rotate_left
             ·simp only [Act.put, List.setIfInBounds_toArray, List.set_cons_zero, List.set_cons_succ, i64_w]
              rfl
             refine one_ (i := 3) (N := some 64) #[true, true, true, true, true, true, false, false] rfl rfl (one_of HT_.out (by kernel_rfl)) (by decide) (fun K hK => ?_)
             refine goes_ Try.func28 (by kernel_rfl) rfl #[.slice Ao54 x7_4.length co54, .int .i64 ((rd_T102 ac x57_4).f0), .int .i64 2] (by rfl) rfl rfl (by (try simp only [List.map_toArray, List.map_cons, List.map_nil]); first | done | rfl) ?_
             with_reducible refine (wire_number.calls k4 (fun k_ => some k_ = (.slice Ao54 x7_4.length co54 : Value).ownBlock) (.slice Ao54 x7_4.length co54) x7_4 ((rd_T102 ac x57_4).f0) 2 t291 w _ ?side1 ?side2 A47.out).mono ?_
             (case side1 => repeat (first | (with_reducible first | exact HB.out | apply below_alloc | apply pw_below_drewN | apply below_drew1 | refine below_set ?_ ad.out | refine below_set ?_ GE290.out) | exact HB.out))
             (case side2 => exact Kd.R_tight rfl HO_7.out)
             rintro e w55 ⟨v292, rfl, ho0, hb, hkp⟩
             refine ⟨_, rfl, ?_⟩
             have n0_ := Aside0.mk (Kd.R_mono (ok' := fun k_ => some k_ ≠ (v292 : Value).ownBlock) (Kd.R_keptB (HO_3.out) hkp (fun k_ hk_ hs_ => (hk_) hs_)) (fun k_ hk_ => fun e_ => Or.elim (ho0.1 k_ e_.symm) (fun hs_ => hk_.2.1 hs_) (fun hn_ => Nat.not_le.2 hk_.2.2 hn_)))
             have n1_ := Aside0.mk (blk_kept (by (with_reducible repeat (first | refine blk_drewN ?_ _ | refine blk_drew ?_ | refine blk_alloc ?_ _)); exact aa.out) hkp (fun hs_ => (fun e_ => (Kd.R_ne HO_7.out aa.out (by decide)) e_) hs_))
             have n2_ := Aside0.mk (blk_kept (by (with_reducible repeat (first | refine blk_drewN ?_ _ | refine blk_drew ?_ | refine blk_alloc ?_ _)); exact al.out) hkp (fun hs_ => (fun e_ => (Kd.R_ne HO_7.out al.out (by decide)) e_) hs_))
             have n3_ := Aside0.mk (Kd.R_mono (ok' := fun k_ => some k_ ≠ (v287 : Value).ownBlock) ho0 (fun k_ hk_ => Or.elim hk_ (fun hs_ => fun e_ => (((HO_3.out).1 k_ e_.symm)) hs_) (fun hn_ => (Kd.fresh' (Kd.R_lt (by (with_reducible repeat (first | apply Kd.R_alloc | apply Kd.R_drewN | apply Kd.R_drew)); exact HO_3.out)) k_ hn_))))
             have n4_ := Aside0.mk (hb)
             clear HO_3
             clear aa
             clear al
             clear HB
             clear HO_7
             have HO_3 := n0_
             have aa := n1_
             have al := n2_
             have HO293 := n3_
             have HB := n4_
             clear n0_ n1_ n2_ n3_ n4_
             (try clear hb)
             (try clear hkp)
             (try clear ho0)
             obtain ⟨Ao56, co56, eo56⟩ := Kd.R_slice HO293.out
             (first | subst eo56 | (injection eo56 with f1_ f2_ f3_; have f4_ := f1_.symm; have f5_ := f3_.symm; clear f1_ f2_ f3_; subst f4_; subst f5_))
             refine hK.out _ _ (k0567.b2e al.out) (fun hHeld => ?_)
             clear hK K
             refine norm_ (a' := ?_) ?_ ?_
             rotate_left
             ·show Act.put _ (some 64) _ = _
              simp only [Act.put, List.setIfInBounds_toArray, List.set_cons_zero, List.set_cons_succ, i64_w]
              rfl
             refine one_ (i := 6) (N := some 67) #[true, true, true, true, true, true, true, false] rfl rfl (one_of HT_.out (by kernel_rfl)) (by decide) (fun K hK => ?_)
             refine goes_ Try.func28 (by kernel_rfl) rfl #[.slice Ao56 t291.length co56, .int .i64 ((rd_T102 ac x57_4).f1), .int .i64 2] (by rfl) rfl rfl (by (try simp only [List.map_toArray, List.map_cons, List.map_nil]); first | done | rfl) ?_
             with_reducible refine (wire_number.calls k4 (fun k_ => some k_ = (.slice Ao56 t291.length co56 : Value).ownBlock) (.slice Ao56 t291.length co56) t291 ((rd_T102 ac x57_4).f1) 2 t294 w _ ?side1 ?side2 A48.out).mono ?_
             (case side1 => repeat (first | (with_reducible first | exact HB.out | apply below_alloc | apply pw_below_drewN | apply below_drew1 | refine below_set ?_ ad.out | refine below_set ?_ GE290.out) | exact HB.out))
             (case side2 => exact Kd.R_tight rfl HO293.out)
             rintro e w57 ⟨v295, rfl, ho0, hb, hkp⟩
             refine ⟨_, rfl, ?_⟩
             have n0_ := Aside0.mk (Kd.R_mono (ok' := fun k_ => some k_ ≠ (v295 : Value).ownBlock) (Kd.R_keptB (HO_3.out) hkp (fun k_ hk_ hs_ => (hk_) hs_)) (fun k_ hk_ => fun e_ => Or.elim (ho0.1 k_ e_.symm) (fun hs_ => hk_.2.1 hs_) (fun hn_ => Nat.not_le.2 hk_.2.2 hn_)))
             have n1_ := Aside0.mk (blk_kept (by (with_reducible repeat (first | refine blk_drewN ?_ _ | refine blk_drew ?_ | refine blk_alloc ?_ _)); exact aa.out) hkp (fun hs_ => (fun e_ => (Kd.R_ne HO293.out aa.out (by decide)) e_) hs_))
             have n2_ := Aside0.mk (blk_kept (by (with_reducible repeat (first | refine blk_drewN ?_ _ | refine blk_drew ?_ | refine blk_alloc ?_ _)); exact al.out) hkp (fun hs_ => (fun e_ => (Kd.R_ne HO293.out al.out (by decide)) e_) hs_))
             have n3_ := Aside0.mk (Kd.R_mono (ok' := fun k_ => some k_ ≠ (v287 : Value).ownBlock) ho0 (fun k_ hk_ => Or.elim hk_ (fun hs_ => fun e_ => (((HO_3.out).1 k_ e_.symm)) hs_) (fun hn_ => (Kd.fresh' (Kd.R_lt (by (with_reducible repeat (first | apply Kd.R_alloc | apply Kd.R_drewN | apply Kd.R_drew)); exact HO_3.out)) k_ hn_))))
             have n4_ := Aside0.mk (hb)
             clear HO_3
             clear aa
             clear al
             clear HB
             clear HO293
             have HO_3 := n0_
             have aa := n1_
             have al := n2_
             have HO296 := n3_
             have HB := n4_
             clear n0_ n1_ n2_ n3_ n4_
             (try clear hb)
             (try clear hkp)
             (try clear ho0)
             refine hK.out _ _ (k0567.b2e al.out) (fun hHeld => ?_)
             clear hK K
             refine norm_ (a' := ?_) ?_ ?_
             rotate_left
             ·show Act.put _ (some 67) _ = _
              simp only [Act.put, List.setIfInBounds_toArray, List.set_cons_zero, List.set_cons_succ, i64_w]
              rfl
             refine pure_ (i := 7) (N := some 7) (v := ?_) (a' := ?_) #[true, true, true, true, true, true, true, true] rfl rfl (any_of HT_.out (by kernel_rfl)) (fun _ _ _ h => h) (Or.inl ⟨by rfl, ?_⟩) ?_ ?_
             rotate_left
             ·intro w'
              go_simp
              with_reducible rfl
             rotate_left
             ·simp only [Act.put, List.setIfInBounds_toArray, List.set_cons_zero, List.set_cons_succ, i64_w]
              rfl
             refine done_ (done_of HT_.out (by kernel_rfl)) ?_
             try go_wp2
             go_roundg k4
             case measure => have := HJ2.out; have := HK2.out; have := HJ22.out; have := HK4.out; omega
             case rel => exact ⟨(t294), (wrap64 (x57_4 + 1)), (by first | rfl | (simp; done) | (simp [*]; done)), H', ⟨by have := HJ2.out; have := HK2.out; have := HJ22.out; have := HK4.out; omega⟩, ⟨by (with_reducible repeat (first | apply Kd.R_alloc | apply Kd.R_drewN | apply Kd.R_drew)); exact HO_3.out⟩, ⟨by (with_reducible repeat (first | apply Kd.R_alloc | apply Kd.R_drewN | apply Kd.R_drew)); exact HO296.out⟩, ⟨by (with_reducible repeat (first | refine blk_drewN ?_ _ | refine blk_drew ?_ | refine blk_alloc ?_ _)); exact aa.out⟩, ⟨by repeat (first | (with_reducible first | exact HB.out | apply below_alloc | apply pw_below_drewN | apply below_drew1 | refine below_set ?_ ad.out | refine below_set ?_ GE290.out) | exact HB.out)⟩⟩
            ·rw [if_neg c46] at H
             exact absurd H (by simp)
           ·rw [if_neg c45] at H
            exact absurd H (by simp)
          ·rw [if_neg bb] at H
           have c44b0 : decide (x57_4 < (ac.length : Int)) = false := decide_eq_false bb
           clear bb
           have H' := Aside0.mk H
           clear H
           have hcz58_0 : wr.cell? ⟨ab, 0, none⟩ = some (.int .i64 aj) := (blk_cell aa.out 0).trans rfl
           have hcz58_1 : wr.cell? ⟨ab, 1, none⟩ = some (.int .i64 ah) := (blk_cell aa.out 1).trans rfl
           have hcz58_2 : wr.cell? ⟨ab, 2, none⟩ = some (.int .i64 ai) := (blk_cell aa.out 2).trans rfl
           have hcz58_3 : wr.cell? ⟨ab, 3, none⟩ = some (.slice an ae.length ao) := (blk_cell aa.out 3).trans rfl
           have hcz58_4 : wr.cell? ⟨ab, 4, none⟩ = some (.slice au ac.length ap) := (blk_cell aa.out 4).trans rfl
           have hcz58_5 : wr.cell? ⟨ab, 5, none⟩ = some (.int .i64 ag) := (blk_cell aa.out 5).trans rfl
           have hcz58_6 : wr.cell? ⟨ab, 6, none⟩ = some (.slice aq af.length ar) := (blk_cell aa.out 6).trans rfl
           have hfz58_0 := blk_frozen aa.out 0
           have hfz58_1 := blk_frozen aa.out 1
           have hfz58_2 := blk_frozen aa.out 2
           have hfz58_3 := blk_frozen aa.out 3
           have hfz58_4 := blk_frozen aa.out 4
           have hfz58_5 := blk_frozen aa.out 5
           have hfz58_6 := blk_frozen aa.out 6
           go_wp2
           go_loopg [8, 72] k4 (fun kq v8 v72 w' => ∃ (x8_5 : List Int) (x72_5 : Int), v72 = .int .i64 x72_5 ∧ Aside0 (wire_attributes.l2 kq t286 x7_4 x8_5 af (af.length : Int) x72_5 aj ah ai ae ac ag af = some r) ∧ Aside0 (kq ≤ k4) ∧ Aside0 (Kd.R (Kd.int .u8) 5 w' w.heap.size (fun k_ => some k_ ≠ (u7 : Value).ownBlock ∧ some k_ ≠ (v8 : Value).ownBlock) v287 t286) ∧ Aside0 (Kd.R (Kd.int .u8) 5 w' w.heap.size (fun k_ => some k_ ≠ (v287 : Value).ownBlock ∧ some k_ ≠ (v8 : Value).ownBlock) u7 x7_4) ∧ Aside0 (Kd.R (Kd.int .u8) 5 w' w.heap.size (fun k_ => some k_ ≠ (v287 : Value).ownBlock ∧ some k_ ≠ (u7 : Value).ownBlock) v8 x8_5) ∧ Aside0 (w'.heap[ab]? = some (.cells #[.int .i64 aj, .int .i64 ah, .int .i64 ai, (.slice an ae.length ao), (.slice au ac.length ap), .int .i64 ag, (.slice aq af.length ar)] 41 (0, 0))) ∧ Aside0 (Below w.heap.size w w'))
           case atStart => exact ⟨(([] : List Int)), (0), (by first | rfl | (simp; done) | (simp [*]; done)), H', ⟨Nat.le_refl _⟩, ⟨by (with_reducible repeat (first | apply Kd.R_alloc | apply Kd.R_drewN | apply Kd.R_drew)); exact Kd.R_mono HO_3.out (fun _ hk => ⟨hk, (by simp [Value.ownBlock])⟩)⟩, ⟨by (with_reducible repeat (first | apply Kd.R_alloc | apply Kd.R_drewN | apply Kd.R_drew)); exact Kd.R_mono HO_7.out (fun _ hk => ⟨hk, (by simp [Value.ownBlock])⟩)⟩, ⟨by first | exact Kd.R_nil _ _ _ _ _ | exact Kd.N_nil _ _ _ _ _ | exact Kd.V_nil _ _ _ _ _ | exact Kd.Q_nil _ _ _ _ _ | exact Kd.S_nil _ _ _ _ _⟩, ⟨by (with_reducible repeat (first | refine blk_drewN ?_ _ | refine blk_drew ?_ | refine blk_alloc ?_ _)); exact aa.out⟩, ⟨by repeat (first | (with_reducible first | exact HB.out | apply below_alloc | apply pw_below_drewN | apply below_drew1 | refine below_set ?_ ad.out) | exact HB.out)⟩⟩
           case round =>
            clear H'
            try clear c1
            try clear c2
            try clear p2
            try clear q2
            try clear hx2
            try clear c3
            try clear c4
            try clear c5
            try clear c6
            try clear p6
            try clear az
            try clear c11b0
            try clear c11b1
            try clear a7
            try clear c16b0
            try clear a9
            try clear c17b0
            try clear ba
            try clear c18b0
            try clear p27
            try clear q27
            try clear hx27
            try clear a8
            try clear c28b0
            try clear p28
            try clear q28
            try clear hx28
            try clear c36
            try clear bb
            try clear c44b0
            try clear c45
            try clear c45b0
            try clear c46
            try clear c46b0
            try clear c50
            try clear hcz10_0
            try clear hcz10_1
            try clear hcz10_2
            try clear hcz10_3
            try clear hcz10_4
            try clear hcz10_5
            try clear hcz10_6
            try clear hcz12_0
            try clear hcz12_1
            try clear hcz12_2
            try clear hcz12_3
            try clear hcz12_4
            try clear hcz12_5
            try clear hcz12_6
            try clear hcz15_0
            try clear hcz15_1
            try clear hcz15_2
            try clear hcz15_3
            try clear hcz15_4
            try clear hcz15_5
            try clear hcz15_6
            try clear hcz27_0
            try clear hcz27_1
            try clear hcz27_2
            try clear hcz27_3
            try clear hcz27_4
            try clear hcz27_5
            try clear hcz27_6
            try clear hcz31_0
            try clear hcz31_1
            try clear hcz31_2
            try clear hcz31_3
            try clear hcz31_4
            try clear hcz31_5
            try clear hcz31_6
            try clear hcz38_0
            try clear hcz38_1
            try clear hcz38_2
            try clear hcz38_3
            try clear hcz38_4
            try clear hcz38_5
            try clear hcz38_6
            try clear hcz43_0
            try clear hcz43_1
            try clear hcz43_2
            try clear hcz43_3
            try clear hcz43_4
            try clear hcz43_5
            try clear hcz43_6
            try clear hcz51_0
            try clear hcz51_1
            try clear hcz58_0
            try clear hcz58_1
            try clear hcz58_2
            try clear hcz58_3
            try clear hcz58_4
            try clear hcz58_5
            try clear hcz58_6
            try clear hcz5_0
            try clear hcz5_1
            try clear hcz5_2
            try clear hcz5_3
            try clear hcz5_4
            try clear hcz5_5
            try clear hcz5_6
            try clear hfz10_0
            try clear hfz10_1
            try clear hfz10_2
            try clear hfz10_3
            try clear hfz10_4
            try clear hfz10_5
            try clear hfz10_6
            try clear hfz12_0
            try clear hfz12_1
            try clear hfz12_2
            try clear hfz12_3
            try clear hfz12_4
            try clear hfz12_5
            try clear hfz12_6
            try clear hfz15_0
            try clear hfz15_1
            try clear hfz15_2
            try clear hfz15_3
            try clear hfz15_4
            try clear hfz15_5
            try clear hfz15_6
            try clear hfz27_0
            try clear hfz27_1
            try clear hfz27_2
            try clear hfz27_3
            try clear hfz27_4
            try clear hfz27_5
            try clear hfz27_6
            try clear hfz31_0
            try clear hfz31_1
            try clear hfz31_2
            try clear hfz31_3
            try clear hfz31_4
            try clear hfz31_5
            try clear hfz31_6
            try clear hfz38_0
            try clear hfz38_1
            try clear hfz38_2
            try clear hfz38_3
            try clear hfz38_4
            try clear hfz38_5
            try clear hfz38_6
            try clear hfz43_0
            try clear hfz43_1
            try clear hfz43_2
            try clear hfz43_3
            try clear hfz43_4
            try clear hfz43_5
            try clear hfz43_6
            try clear hfz51_0
            try clear hfz51_1
            try clear hfz58_0
            try clear hfz58_1
            try clear hfz58_2
            try clear hfz58_3
            try clear hfz58_4
            try clear hfz58_5
            try clear hfz58_6
            try clear hfz5_0
            try clear hfz5_1
            try clear hfz5_2
            try clear hfz5_3
            try clear hfz5_4
            try clear hfz5_5
            try clear hfz5_6
            try clear hx270_0
            try clear hx289_0
            try clear hx289_1
            try clear p2
            try clear p27
            try clear p270
            try clear p289
            try clear p6
            try clear q2
            try clear q27
            try clear q270
            try clear q289
            obtain ⟨x8_5, x72_5, rfl, HA, HK5, HO_3, HO_7, HO_8, aa, HB⟩ := hrel
            cases gk with
            | zero => exact absurd HA.out (by simp [wire_attributes.l2])
            | succ k5 =>
             have H := HA.out
             clear HA
             simp only [wire_attributes.l2] at H
             by_cases c59 : x72_5 < (af.length : Int)
             ·rw [if_pos c59] at H
              have c59b0 : decide (x72_5 < (af.length : Int)) = true := decide_eq_true c59
              clear c59
              by_cases c60 : 0 ≤ x72_5
              ·rw [if_pos c60] at H
               have c60b0 : decide (0 ≤ x72_5) = true := decide_eq_true c60
               clear c60
               by_cases c61 : x72_5 < (af.length : Int)
               ·rw [if_pos c61] at H
                have c61b0 : decide (x72_5 < (af.length : Int)) = true := decide_eq_true c61
                clear c61
                replace H := Option.bind_eq_some_iff.mp H
                obtain ⟨t298, A620, H⟩ := H
                (try dsimp only at H)
                have A62 := Aside0.mk A620
                clear A620
                have H' := Aside0.mk H
                clear H
                have p297 : 0 ≤ (x72_5 : Int) := of_decide_eq_true (by first | (with_reducible assumption) | assumption)
                have q297 : x72_5 < (af.length : Int) := of_decide_eq_true (by first | (with_reducible assumption) | assumption)
                obtain ⟨ad297, e297, hx297_0⟩ := Kd.at_int HR0_6.out x72_5 p297 q297
                (try (injection e297 with e297; replace e297 := e297.symm; subst e297; have e297 : True := trivial))
                cases e297
                replace hx297_0 := (HB.out.cell (World.block_lt_of_cell? w _ hx297_0)).trans hx297_0
                replace p297 := eq_true p297
                replace q297 := eq_true q297
                obtain ⟨Ao63, co63, eo63⟩ := Kd.R_slice HO_8.out
                subst eo63
                go_wp2_with (first | ((with_reducible refine gate_callee (f := 28) rfl ?_); refine goesL_ (some 78) rfl rfl Try.func28 (by kernel_rfl) rfl #[.slice Ao63 x8_5.length co63, .int .i64 (rd af x72_5), .int .i64 4] rfl (by (try simp only [List.map_toArray, List.map_cons, List.map_nil]); first | done | rfl) ?_; (with_reducible refine (wire_number.calls k5 (fun k_ => some k_ = (.slice Ao63 x8_5.length co63 : Value).ownBlock) (.slice Ao63 x8_5.length co63) x8_5 (rd af x72_5) 4 t298 w _ ?side1 ?side2 A62.out).mono ?_); (case side1 => repeat (first | (with_reducible first | exact HB.out | apply below_alloc | apply pw_below_drewN | apply below_drew1 | refine below_set ?_ ad.out) | exact HB.out)); (case side2 => exact Kd.R_tight rfl HO_8.out); rintro e w64 ⟨v299, rfl, ho0, hb, hkp⟩; refine ⟨_, rfl, ?_⟩; have n0_ := Aside0.mk (Kd.R_mono (ok' := fun k_ => some k_ ≠ (u7 : Value).ownBlock ∧ some k_ ≠ (v299 : Value).ownBlock) (Kd.R_keptB (HO_3.out) hkp (fun k_ hk_ hs_ => (hk_.2) hs_)) (fun k_ hk_ => ⟨hk_.1.1, fun e_ => Or.elim (ho0.1 k_ e_.symm) (fun hs_ => hk_.2.1 hs_) (fun hn_ => Nat.not_le.2 hk_.2.2 hn_)⟩)); have n1_ := Aside0.mk (Kd.R_mono (ok' := fun k_ => some k_ ≠ (v287 : Value).ownBlock ∧ some k_ ≠ (v299 : Value).ownBlock) (Kd.R_keptB (HO_7.out) hkp (fun k_ hk_ hs_ => (hk_.2) hs_)) (fun k_ hk_ => ⟨hk_.1.1, fun e_ => Or.elim (ho0.1 k_ e_.symm) (fun hs_ => hk_.2.1 hs_) (fun hn_ => Nat.not_le.2 hk_.2.2 hn_)⟩)); have n2_ := Aside0.mk (blk_kept (by (with_reducible repeat (first | refine blk_drewN ?_ _ | refine blk_drew ?_ | refine blk_alloc ?_ _)); exact aa.out) hkp (fun hs_ => (fun e_ => (Kd.R_ne HO_8.out aa.out (by decide)) e_) hs_)); have n3_ := Aside0.mk (Kd.R_mono (ok' := fun k_ => some k_ ≠ (v287 : Value).ownBlock ∧ some k_ ≠ (u7 : Value).ownBlock) ho0 (fun k_ hk_ => ⟨Or.elim hk_ (fun hs_ => fun e_ => (((HO_3.out).1 k_ e_.symm).2) hs_) (fun hn_ => (Kd.fresh' (Kd.R_lt (by (with_reducible repeat (first | apply Kd.R_alloc | apply Kd.R_drewN | apply Kd.R_drew)); exact HO_3.out)) k_ hn_)), Or.elim hk_ (fun hs_ => fun e_ => (((HO_7.out).1 k_ e_.symm).2) hs_) (fun hn_ => (Kd.fresh' (Kd.R_lt (by (with_reducible repeat (first | apply Kd.R_alloc | apply Kd.R_drewN | apply Kd.R_drew)); exact HO_7.out)) k_ hn_))⟩)); have n4_ := Aside0.mk (hb); clear HO_3; clear HO_7; clear aa; clear HB; clear HO_8; have HO_3 := n0_; have HO_7 := n1_; have aa := n2_; have HO300 := n3_; have HB := n4_; clear n0_ n1_ n2_ n3_ n4_; (try clear hb); (try clear hkp); (try clear ho0)))
                go_roundg k5
                case measure => have := HJ2.out; have := HK2.out; have := HJ22.out; have := HK4.out; have := HK5.out; omega
                case rel => exact ⟨(t298), (wrap64 (x72_5 + 1)), (by first | rfl | (simp; done) | (simp [*]; done)), H', ⟨by have := HJ2.out; have := HK2.out; have := HJ22.out; have := HK4.out; have := HK5.out; omega⟩, ⟨by (with_reducible repeat (first | apply Kd.R_alloc | apply Kd.R_drewN | apply Kd.R_drew)); exact HO_3.out⟩, ⟨by (with_reducible repeat (first | apply Kd.R_alloc | apply Kd.R_drewN | apply Kd.R_drew)); exact HO_7.out⟩, ⟨by (with_reducible repeat (first | apply Kd.R_alloc | apply Kd.R_drewN | apply Kd.R_drew)); exact HO300.out⟩, ⟨by (with_reducible repeat (first | refine blk_drewN ?_ _ | refine blk_drew ?_ | refine blk_alloc ?_ _)); exact aa.out⟩, ⟨by repeat (first | (with_reducible first | exact HB.out | apply below_alloc | apply pw_below_drewN | apply below_drew1 | refine below_set ?_ ad.out) | exact HB.out)⟩⟩
               ·rw [if_neg c61] at H
                exact absurd H (by simp)
              ·rw [if_neg c60] at H
               exact absurd H (by simp)
             ·rw [if_neg c59] at H
              have c59b0 : decide (x72_5 < (af.length : Int)) = false := decide_eq_false c59
              clear c59
              have HC65 := Aside0.mk H
              clear H
              obtain ⟨Ao66, co66, eo66⟩ := Kd.R_slice HO_7.out
              subst eo66
              go_upto_if 82 with (fail)
              go_cut [3] (fun v3 wc => ∃ (kq : Nat) (x3_64 : List Int), Aside0 (wire_attributes.j5 kq x3_64 x8_5 aj ah ai ae ac ag af = some r) ∧ Aside0 (kq ≤ k5) ∧ Aside0 (Kd.R (Kd.int .u8) 5 wc w.heap.size (fun k_ => some k_ ≠ (u8 : Value).ownBlock) v3 x3_64) ∧ Aside0 (Kd.R (Kd.int .u8) 5 wc w.heap.size (fun k_ => some k_ ≠ (v3 : Value).ownBlock) u8 x8_5) ∧ Aside0 (wc.heap[ab]? = some (.cells #[.int .i64 aj, .int .i64 ah, .int .i64 ai, (.slice an ae.length ao), (.slice au ac.length ap), .int .i64 ag, (.slice aq af.length ar)] 41 (0, 0))) ∧ Aside0 (Below w.heap.size w wc))
              case first =>
               have H := HC65.out
               clear HC65
               by_cases c67 : (x7_4.length : Int) > 0
               ·rw [if_pos c67] at H
                have c67b0 : decide (0 < (x7_4.length : Int)) = true := decide_eq_true c67
                have c67b1 : decide (0 < x7_4.length) = true := decide_eq_true (by omega)
                clear c67
                (first | rw [c67b0] | rw [c67b1] | (simp only [i64_w]; rw [c67b0]) | skip)
                replace H := Option.bind_eq_some_iff.mp H
                obtain ⟨t301, A680, H⟩ := H
                replace H : (wire_attributes.j5 k5 t301 x8_5 aj ah ai ae ac ag af) = some r := H
                have A68 := Aside0.mk A680
                clear A680
                have H' := Aside0.mk H
                clear H
                obtain ⟨Ao69, co69, eo69⟩ := Kd.R_slice HO_3.out
                subst eo69
                go_wp2_with (first | ((with_reducible refine gate_callee (f := 63) rfl ?_); refine goesL_ (some 85) rfl rfl Try.func63 (by kernel_rfl) rfl #[.slice Ao69 t286.length co69, .int .u8 192, .int .u8 8, .slice Ao66 x7_4.length co66] rfl (by (try simp only [List.map_toArray, List.map_cons, List.map_nil]); first | done | rfl) ?_; (with_reducible refine (wire_one.calls (fun k_ => some k_ = (.slice Ao69 t286.length co69 : Value).ownBlock) (.slice Ao69 t286.length co69) t286 192 8 _ _ x7_4 t301 w _ ?side1 ?side2 ?side3 ?side4 A68.out).mono ?_); (case side1 => repeat (first | (with_reducible first | exact HB.out | apply below_alloc | apply pw_below_drewN | apply below_drew1 | refine below_set ?_ ad.out) | exact HB.out)); (case side2 | side4 => first | exact Kd.R_tight rfl HO_3.out | exact (Kd.R_reads' HO_7.out).2.1); (case side3 => exact Kd.C_kept_own (HO_7.out) (fun k_ hk_ hs_ => (hk_.1) hs_)); rintro e w70 ⟨v302, rfl, ho0, hb, hkp⟩; refine ⟨_, rfl, ?_⟩; have n0_ := Aside0.mk (Kd.R_mono (ok' := fun k_ => some k_ ≠ (u8 : Value).ownBlock ∧ some k_ ≠ (v302 : Value).ownBlock) (Kd.R_keptB (HO_7.out) hkp (fun k_ hk_ hs_ => (hk_.1) hs_)) (fun k_ hk_ => ⟨hk_.1.2, fun e_ => Or.elim (ho0.1 k_ e_.symm) (fun hs_ => hk_.2.1 hs_) (fun hn_ => Nat.not_le.2 hk_.2.2 hn_)⟩)); have n1_ := Aside0.mk (Kd.R_mono (ok' := fun k_ => some k_ ≠ (.slice Ao66 x7_4.length co66 : Value).ownBlock ∧ some k_ ≠ (v302 : Value).ownBlock) (Kd.R_keptB (HO_8.out) hkp (fun k_ hk_ hs_ => (hk_.1) hs_)) (fun k_ hk_ => ⟨hk_.1.2, fun e_ => Or.elim (ho0.1 k_ e_.symm) (fun hs_ => hk_.2.1 hs_) (fun hn_ => Nat.not_le.2 hk_.2.2 hn_)⟩)); have n2_ := Aside0.mk (blk_kept (by (with_reducible repeat (first | refine blk_drewN ?_ _ | refine blk_drew ?_ | refine blk_alloc ?_ _)); exact aa.out) hkp (fun hs_ => (fun e_ => (Kd.R_ne HO_3.out aa.out (by decide)) e_) hs_)); have n3_ := Aside0.mk (Kd.R_mono (ok' := fun k_ => some k_ ≠ (.slice Ao66 x7_4.length co66 : Value).ownBlock ∧ some k_ ≠ (u8 : Value).ownBlock) ho0 (fun k_ hk_ => ⟨Or.elim hk_ (fun hs_ => fun e_ => (((HO_7.out).1 k_ e_.symm).1) hs_) (fun hn_ => (Kd.fresh' (Kd.R_lt (by (with_reducible repeat (first | apply Kd.R_alloc | apply Kd.R_drewN | apply Kd.R_drew)); exact HO_7.out)) k_ hn_)), Or.elim hk_ (fun hs_ => fun e_ => (((HO_8.out).1 k_ e_.symm).1) hs_) (fun hn_ => (Kd.fresh' (Kd.R_lt (by (with_reducible repeat (first | apply Kd.R_alloc | apply Kd.R_drewN | apply Kd.R_drew)); exact HO_8.out)) k_ hn_))⟩)); have n4_ := Aside0.mk (hb); clear HO_7; clear HO_8; clear aa; clear HB; clear HO_3; have HO_7 := n0_; have HO_8 := n1_; have aa := n2_; have HO303 := n3_; have HB := n4_; clear n0_ n1_ n2_ n3_ n4_; (try clear hb); (try clear hkp); (try clear ho0)))
                go_meet
                case rel => exact ⟨_, (t301), H', ⟨by have := HJ2.out; have := HK2.out; have := HJ22.out; have := HK4.out; have := HK5.out; first | omega | exact Nat.le_refl _⟩, ⟨by (with_reducible repeat (first | apply Kd.R_alloc | apply Kd.R_drewN | apply Kd.R_drew)); exact Kd.R_mono HO303.out (fun _ hk => hk.2)⟩, ⟨by (with_reducible repeat (first | apply Kd.R_alloc | apply Kd.R_drewN | apply Kd.R_drew)); exact Kd.R_mono HO_8.out (fun _ hk => hk.2)⟩, ⟨by (with_reducible repeat (first | refine blk_drewN ?_ _ | refine blk_drew ?_ | refine blk_alloc ?_ _)); exact aa.out⟩, ⟨by repeat (first | (with_reducible first | exact HB.out | apply below_alloc | apply pw_below_drewN | apply below_drew1 | refine below_set ?_ ad.out) | exact HB.out)⟩⟩
               ·rw [if_neg c67] at H
                have c67b0 : decide (0 < (x7_4.length : Int)) = false := decide_eq_false c67
                have c67b1 : decide (0 < x7_4.length) = false := decide_eq_false (by omega)
                clear c67
                (first | rw [c67b0] | rw [c67b1] | (simp only [i64_w]; rw [c67b0]) | skip)
                have H' := Aside0.mk H
                clear H
                go_wp2
                go_meet
                case rel => exact ⟨_, (t286), H', ⟨by have := HJ2.out; have := HK2.out; have := HJ22.out; have := HK4.out; have := HK5.out; first | omega | exact Nat.le_refl _⟩, ⟨by (with_reducible repeat (first | apply Kd.R_alloc | apply Kd.R_drewN | apply Kd.R_drew)); exact Kd.R_mono HO_3.out (fun _ hk => hk.2)⟩, ⟨by (with_reducible repeat (first | apply Kd.R_alloc | apply Kd.R_drewN | apply Kd.R_drew)); exact Kd.R_mono HO_8.out (fun _ hk => hk.1)⟩, ⟨by (with_reducible repeat (first | refine blk_drewN ?_ _ | refine blk_drew ?_ | refine blk_alloc ?_ _)); exact aa.out⟩, ⟨by repeat (first | (with_reducible first | exact HB.out | apply below_alloc | apply pw_below_drewN | apply below_drew1 | refine below_set ?_ ad.out) | exact HB.out)⟩⟩
              case rest =>
               clear HC65
               try clear c1
               try clear c2
               try clear p2
               try clear q2
               try clear hx2
               try clear c3
               try clear c4
               try clear c5
               try clear c6
               try clear p6
               try clear az
               try clear c11b0
               try clear c11b1
               try clear a7
               try clear c16b0
               try clear a9
               try clear c17b0
               try clear ba
               try clear c18b0
               try clear p27
               try clear q27
               try clear hx27
               try clear a8
               try clear c28b0
               try clear p28
               try clear q28
               try clear hx28
               try clear p29
               try clear q29
               try clear hx29
               try clear c36
               try clear bb
               try clear c44b0
               try clear c45
               try clear c45b0
               try clear c46
               try clear c46b0
               try clear c50
               try clear c59
               try clear c59b0
               try clear c60
               try clear c60b0
               try clear c61
               try clear c61b0
               try clear c63
               try clear p64
               try clear c67
               try clear c67b0
               try clear c67b1
               try clear hcz10_0
               try clear hcz10_1
               try clear hcz10_2
               try clear hcz10_3
               try clear hcz10_4
               try clear hcz10_5
               try clear hcz10_6
               try clear hcz12_0
               try clear hcz12_1
               try clear hcz12_2
               try clear hcz12_3
               try clear hcz12_4
               try clear hcz12_5
               try clear hcz12_6
               try clear hcz15_0
               try clear hcz15_1
               try clear hcz15_2
               try clear hcz15_3
               try clear hcz15_4
               try clear hcz15_5
               try clear hcz15_6
               try clear hcz27_0
               try clear hcz27_1
               try clear hcz27_2
               try clear hcz27_3
               try clear hcz27_4
               try clear hcz27_5
               try clear hcz27_6
               try clear hcz31_0
               try clear hcz31_1
               try clear hcz31_2
               try clear hcz31_3
               try clear hcz31_4
               try clear hcz31_5
               try clear hcz31_6
               try clear hcz38_0
               try clear hcz38_1
               try clear hcz38_2
               try clear hcz38_3
               try clear hcz38_4
               try clear hcz38_5
               try clear hcz38_6
               try clear hcz43_0
               try clear hcz43_1
               try clear hcz43_2
               try clear hcz43_3
               try clear hcz43_4
               try clear hcz43_5
               try clear hcz43_6
               try clear hcz51_0
               try clear hcz51_1
               try clear hcz58_0
               try clear hcz58_1
               try clear hcz58_2
               try clear hcz58_3
               try clear hcz58_4
               try clear hcz58_5
               try clear hcz58_6
               try clear hcz5_0
               try clear hcz5_1
               try clear hcz5_2
               try clear hcz5_3
               try clear hcz5_4
               try clear hcz5_5
               try clear hcz5_6
               try clear hfz10_0
               try clear hfz10_1
               try clear hfz10_2
               try clear hfz10_3
               try clear hfz10_4
               try clear hfz10_5
               try clear hfz10_6
               try clear hfz12_0
               try clear hfz12_1
               try clear hfz12_2
               try clear hfz12_3
               try clear hfz12_4
               try clear hfz12_5
               try clear hfz12_6
               try clear hfz15_0
               try clear hfz15_1
               try clear hfz15_2
               try clear hfz15_3
               try clear hfz15_4
               try clear hfz15_5
               try clear hfz15_6
               try clear hfz27_0
               try clear hfz27_1
               try clear hfz27_2
               try clear hfz27_3
               try clear hfz27_4
               try clear hfz27_5
               try clear hfz27_6
               try clear hfz31_0
               try clear hfz31_1
               try clear hfz31_2
               try clear hfz31_3
               try clear hfz31_4
               try clear hfz31_5
               try clear hfz31_6
               try clear hfz38_0
               try clear hfz38_1
               try clear hfz38_2
               try clear hfz38_3
               try clear hfz38_4
               try clear hfz38_5
               try clear hfz38_6
               try clear hfz43_0
               try clear hfz43_1
               try clear hfz43_2
               try clear hfz43_3
               try clear hfz43_4
               try clear hfz43_5
               try clear hfz43_6
               try clear hfz51_0
               try clear hfz51_1
               try clear hfz58_0
               try clear hfz58_1
               try clear hfz58_2
               try clear hfz58_3
               try clear hfz58_4
               try clear hfz58_5
               try clear hfz58_6
               try clear hfz5_0
               try clear hfz5_1
               try clear hfz5_2
               try clear hfz5_3
               try clear hfz5_4
               try clear hfz5_5
               try clear hfz5_6
               try clear hx270_0
               try clear hx289_0
               try clear hx289_1
               try clear hx297_0
               try clear p2
               try clear p27
               try clear p270
               try clear p28
               try clear p289
               try clear p297
               try clear p6
               try clear q2
               try clear q27
               try clear q270
               try clear q28
               try clear q289
               try clear q297
               obtain ⟨kq, x3_64, HA, HJ64, HO_3, HO_8, aa, HB⟩ := hcut
               cases kq with
               | zero => exact absurd HA.out (by simp [wire_attributes.j5])
               | succ kj64 =>
                have H := HA.out
                clear HA
                simp only [wire_attributes.j5] at H
                by_cases c71 : ag > 0
                ·rw [if_pos c71] at H
                 have c71b0 : decide (0 < ag) = true := decide_eq_true c71
                 clear c71
                 replace H := Option.bind_eq_some_iff.mp H
                 obtain ⟨t304, A720, H⟩ := H
                 (try dsimp only at H)
                 have A72 := Aside0.mk A720
                 clear A720
                 replace H := Option.bind_eq_some_iff.mp H
                 obtain ⟨t307, A730, H⟩ := H
                 (try dsimp only at H)
                 have A73 := Aside0.mk A730
                 clear A730
                 by_cases c74 : (x8_5.length : Int) > 0
                 ·rw [if_pos c74] at H
                  have c74b0 : decide (0 < (x8_5.length : Int)) = true := decide_eq_true c74
                  have c74b1 : decide (0 < x8_5.length) = true := decide_eq_true (by omega)
                  clear c74
                  replace H := Option.bind_eq_some_iff.mp H
                  obtain ⟨t310, A750, H⟩ := H
                  replace H : (some t310) = some r := H
                  have A75 := Aside0.mk A750
                  clear A750
                  obtain rfl := Option.some.inj H
                  have hcz76_0 : wc.cell? ⟨ab, 0, none⟩ = some (.int .i64 aj) := (blk_cell aa.out 0).trans rfl
                  have hcz76_1 : wc.cell? ⟨ab, 1, none⟩ = some (.int .i64 ah) := (blk_cell aa.out 1).trans rfl
                  have hcz76_2 : wc.cell? ⟨ab, 2, none⟩ = some (.int .i64 ai) := (blk_cell aa.out 2).trans rfl
                  have hcz76_3 : wc.cell? ⟨ab, 3, none⟩ = some (.slice an ae.length ao) := (blk_cell aa.out 3).trans rfl
                  have hcz76_4 : wc.cell? ⟨ab, 4, none⟩ = some (.slice au ac.length ap) := (blk_cell aa.out 4).trans rfl
                  have hcz76_5 : wc.cell? ⟨ab, 5, none⟩ = some (.int .i64 ag) := (blk_cell aa.out 5).trans rfl
                  have hcz76_6 : wc.cell? ⟨ab, 6, none⟩ = some (.slice aq af.length ar) := (blk_cell aa.out 6).trans rfl
                  have hfz76_0 := blk_frozen aa.out 0
                  have hfz76_1 := blk_frozen aa.out 1
                  have hfz76_2 := blk_frozen aa.out 2
                  have hfz76_3 := blk_frozen aa.out 3
                  have hfz76_4 := blk_frozen aa.out 4
                  have hfz76_5 := blk_frozen aa.out 5
                  have hfz76_6 := blk_frozen aa.out 6
                  go_wp2_with (first | ((with_reducible refine gate_callee (f := 28) rfl ?_); refine goesL_ (some 92) rfl rfl Try.func28 (by kernel_rfl) rfl #[.slice none 0 0, .int .i64 ag, .int .i64 4] rfl (by (try simp only [List.map_toArray, List.map_cons, List.map_nil]); first | done | rfl) ?_; (refine (wire_number.calls kj64 (fun k_ => some k_ = (.slice none 0 0 : Value).ownBlock) (.slice none 0 0) ([] : List Int) ag 4 t304 w _ ?side1 ?side2 A72.out).mono ?_); (case side1 => repeat (first | (with_reducible first | exact HB.out | apply below_alloc | apply pw_below_drewN | apply below_drew1 | refine below_set ?_ ad.out) | exact HB.out)); (case side2 => exact Kd.R_nil _ _ _ _ _); rintro e w77 ⟨v305, rfl, ho0, hb, hkp⟩; refine ⟨_, rfl, ?_⟩; have n0_ := Aside0.mk (Kd.R_mono (ok' := fun k_ => some k_ ≠ (u8 : Value).ownBlock ∧ some k_ ≠ (v305 : Value).ownBlock) (Kd.R_keptB (HO_3.out) hkp (fun k_ hk_ hs_ => (fun e_ => by simp [Value.ownBlock] at e_) hs_)) (fun k_ hk_ => ⟨hk_.1, fun e_ => Or.elim (ho0.1 k_ e_.symm) (fun hs_ => hk_.2.1 hs_) (fun hn_ => Nat.not_le.2 hk_.2.2 hn_)⟩)); have n1_ := Aside0.mk (Kd.R_mono (ok' := fun k_ => some k_ ≠ (u3 : Value).ownBlock ∧ some k_ ≠ (v305 : Value).ownBlock) (Kd.R_keptB (HO_8.out) hkp (fun k_ hk_ hs_ => (fun e_ => by simp [Value.ownBlock] at e_) hs_)) (fun k_ hk_ => ⟨hk_.1, fun e_ => Or.elim (ho0.1 k_ e_.symm) (fun hs_ => hk_.2.1 hs_) (fun hn_ => Nat.not_le.2 hk_.2.2 hn_)⟩)); have n2_ := Aside0.mk (blk_kept (by (with_reducible repeat (first | refine blk_drewN ?_ _ | refine blk_drew ?_ | refine blk_alloc ?_ _)); exact aa.out) hkp (fun hs_ => (fun e_ => by simp [Value.ownBlock] at e_) hs_)); have n3_ := Aside0.mk (Kd.R_mono (ok' := fun k_ => some k_ ≠ (u3 : Value).ownBlock ∧ some k_ ≠ (u8 : Value).ownBlock) ho0 (fun k_ hk_ => ⟨Or.elim hk_ (fun hs_ => absurd hs_ (by simp [Value.ownBlock])) (fun hn_ => (Kd.fresh' (Kd.R_lt (by (with_reducible repeat (first | apply Kd.R_alloc | apply Kd.R_drewN | apply Kd.R_drew)); exact HO_3.out)) k_ hn_)), Or.elim hk_ (fun hs_ => absurd hs_ (by simp [Value.ownBlock])) (fun hn_ => (Kd.fresh' (Kd.R_lt (by (with_reducible repeat (first | apply Kd.R_alloc | apply Kd.R_drewN | apply Kd.R_drew)); exact HO_8.out)) k_ hn_))⟩)); have n4_ := Aside0.mk (hb); clear HO_3; clear HO_8; clear aa; clear HB; have HO_3 := n0_; have HO_8 := n1_; have aa := n2_; have am := n3_; have HB := n4_; clear n0_ n1_ n2_ n3_ n4_; (try clear hb); (try clear hkp); (try clear ho0); obtain ⟨Ao78, co78, eo78⟩ := Kd.R_slice HO_3.out; subst eo78; obtain ⟨Ao79, co79, eo79⟩ := Kd.R_slice am.out; subst eo79) | ((with_reducible refine gate_callee (f := 63) rfl ?_); refine goesL_ (some 93) rfl rfl Try.func63 (by kernel_rfl) rfl #[.slice Ao78 x3_64.length co78, .int .u8 128, .int .u8 9, .slice Ao79 t304.length co79] rfl (by (try simp only [List.map_toArray, List.map_cons, List.map_nil]); first | done | rfl) ?_; (with_reducible refine (wire_one.calls (fun k_ => some k_ = (.slice Ao78 x3_64.length co78 : Value).ownBlock) (.slice Ao78 x3_64.length co78) x3_64 128 9 _ _ t304 t307 w _ ?side1 ?side2 ?side3 ?side4 A73.out).mono ?_); (case side1 => repeat (first | (with_reducible first | exact HB.out | apply below_alloc | apply pw_below_drewN | apply below_drew1 | refine below_set ?_ ad.out) | exact HB.out)); (case side2 | side4 => first | exact Kd.R_tight rfl HO_3.out | exact (Kd.R_reads' am.out).2.1); (case side3 => exact Kd.C_kept_own (am.out) (fun k_ hk_ hs_ => (hk_.1) hs_)); rintro e w80 ⟨v308, rfl, ho0, hb, hkp⟩; refine ⟨_, rfl, ?_⟩; have n0_ := Aside0.mk (Kd.R_mono (ok' := fun k_ => some k_ ≠ (.slice Ao79 t304.length co79 : Value).ownBlock ∧ some k_ ≠ (v308 : Value).ownBlock) (Kd.R_keptB (HO_8.out) hkp (fun k_ hk_ hs_ => (hk_.1) hs_)) (fun k_ hk_ => ⟨hk_.1.2, fun e_ => Or.elim (ho0.1 k_ e_.symm) (fun hs_ => hk_.2.1 hs_) (fun hn_ => Nat.not_le.2 hk_.2.2 hn_)⟩)); have n1_ := Aside0.mk (blk_kept (by (with_reducible repeat (first | refine blk_drewN ?_ _ | refine blk_drew ?_ | refine blk_alloc ?_ _)); exact aa.out) hkp (fun hs_ => (fun e_ => (Kd.R_ne HO_3.out aa.out (by decide)) e_) hs_)); have n2_ := Aside0.mk (Kd.R_mono (ok' := fun k_ => some k_ ≠ (u8 : Value).ownBlock ∧ some k_ ≠ (v308 : Value).ownBlock) (Kd.R_keptB (am.out) hkp (fun k_ hk_ hs_ => (hk_.1) hs_)) (fun k_ hk_ => ⟨hk_.1.2, fun e_ => Or.elim (ho0.1 k_ e_.symm) (fun hs_ => hk_.2.1 hs_) (fun hn_ => Nat.not_le.2 hk_.2.2 hn_)⟩)); have n3_ := Aside0.mk (Kd.R_mono (ok' := fun k_ => some k_ ≠ (u8 : Value).ownBlock ∧ some k_ ≠ (.slice Ao79 t304.length co79 : Value).ownBlock) ho0 (fun k_ hk_ => ⟨Or.elim hk_ (fun hs_ => fun e_ => (((HO_8.out).1 k_ e_.symm).1) hs_) (fun hn_ => (Kd.fresh' (Kd.R_lt (by (with_reducible repeat (first | apply Kd.R_alloc | apply Kd.R_drewN | apply Kd.R_drew)); exact HO_8.out)) k_ hn_)), Or.elim hk_ (fun hs_ => fun e_ => (((am.out).1 k_ e_.symm).1) hs_) (fun hn_ => (Kd.fresh' (Kd.R_lt (by (with_reducible repeat (first | apply Kd.R_alloc | apply Kd.R_drewN | apply Kd.R_drew)); exact am.out)) k_ hn_))⟩)); have n4_ := Aside0.mk (hb); clear HO_8; clear aa; clear am; clear HB; clear HO_3; have HO_8 := n0_; have aa := n1_; have am := n2_; have HO309 := n3_; have HB := n4_; clear n0_ n1_ n2_ n3_ n4_; (try clear hb); (try clear hkp); (try clear ho0); obtain ⟨Ao81, co81, eo81⟩ := Kd.R_slice HO_8.out; subst eo81; obtain ⟨Ao82, co82, eo82⟩ := Kd.R_slice HO309.out; subst eo82) | ((with_reducible refine gate_callee (f := 63) rfl ?_); refine goesL_ (some 99) rfl rfl Try.func63 (by kernel_rfl) rfl #[.slice Ao82 t307.length co82, .int .u8 128, .int .u8 10, .slice Ao81 x8_5.length co81] rfl (by (try simp only [List.map_toArray, List.map_cons, List.map_nil]); first | done | rfl) ?_; (with_reducible refine (wire_one.calls (fun k_ => some k_ = (.slice Ao82 t307.length co82 : Value).ownBlock) (.slice Ao82 t307.length co82) t307 128 10 _ _ x8_5 t310 w _ ?side1 ?side2 ?side3 ?side4 A75.out).mono ?_); (case side1 => repeat (first | (with_reducible first | exact HB.out | apply below_alloc | apply pw_below_drewN | apply below_drew1 | refine below_set ?_ ad.out) | exact HB.out)); (case side2 | side4 => first | exact Kd.R_tight rfl HO309.out | exact (Kd.R_reads' HO_8.out).2.1); (case side3 => exact Kd.C_kept_own (HO_8.out) (fun k_ hk_ hs_ => (hk_.2) hs_)); rintro e w83 ⟨v311, rfl, ho0, hb, hkp⟩; refine ⟨_, rfl, ?_⟩; have n0_ := Aside0.mk (Kd.R_mono (ok' := fun k_ => some k_ ≠ (.slice Ao79 t304.length co79 : Value).ownBlock ∧ some k_ ≠ (v311 : Value).ownBlock) (Kd.R_keptB (HO_8.out) hkp (fun k_ hk_ hs_ => (hk_.2) hs_)) (fun k_ hk_ => ⟨hk_.1.1, fun e_ => Or.elim (ho0.1 k_ e_.symm) (fun hs_ => hk_.2.1 hs_) (fun hn_ => Nat.not_le.2 hk_.2.2 hn_)⟩)); have n1_ := Aside0.mk (blk_kept (by (with_reducible repeat (first | refine blk_drewN ?_ _ | refine blk_drew ?_ | refine blk_alloc ?_ _)); exact aa.out) hkp (fun hs_ => (fun e_ => (Kd.R_ne HO309.out aa.out (by decide)) e_) hs_)); have n2_ := Aside0.mk (Kd.R_mono (ok' := fun k_ => some k_ ≠ (.slice Ao81 x8_5.length co81 : Value).ownBlock ∧ some k_ ≠ (v311 : Value).ownBlock) (Kd.R_keptB (am.out) hkp (fun k_ hk_ hs_ => (hk_.2) hs_)) (fun k_ hk_ => ⟨hk_.1.1, fun e_ => Or.elim (ho0.1 k_ e_.symm) (fun hs_ => hk_.2.1 hs_) (fun hn_ => Nat.not_le.2 hk_.2.2 hn_)⟩)); have n3_ := Aside0.mk (Kd.R_mono (ok' := fun k_ => some k_ ≠ (.slice Ao81 x8_5.length co81 : Value).ownBlock ∧ some k_ ≠ (.slice Ao79 t304.length co79 : Value).ownBlock) ho0 (fun k_ hk_ => ⟨Or.elim hk_ (fun hs_ => fun e_ => (((HO_8.out).1 k_ e_.symm).2) hs_) (fun hn_ => (Kd.fresh' (Kd.R_lt (by (with_reducible repeat (first | apply Kd.R_alloc | apply Kd.R_drewN | apply Kd.R_drew)); exact HO_8.out)) k_ hn_)), Or.elim hk_ (fun hs_ => fun e_ => (((am.out).1 k_ e_.symm).2) hs_) (fun hn_ => (Kd.fresh' (Kd.R_lt (by (with_reducible repeat (first | apply Kd.R_alloc | apply Kd.R_drewN | apply Kd.R_drew)); exact am.out)) k_ hn_))⟩)); have n4_ := Aside0.mk (hb); clear HO_8; clear aa; clear am; clear HB; clear HO309; have HO_8 := n0_; have aa := n1_; have am := n2_; have HO312 := n3_; have HB := n4_; clear n0_ n1_ n2_ n3_ n4_; (try clear hb); (try clear hkp); (try clear ho0)))
                  go_ret
                  exact ⟨_, by first | rfl | (simp [errW_none, errW_some] <;> rfl) | (simp [*, errW_none, errW_some] <;> rfl), by (with_reducible repeat (first | apply Kd.R_alloc | apply Kd.R_drewN | apply Kd.R_drew)); exact Kd.R_mono HO312.out (fun _ hk => trivial), by repeat (first | (with_reducible first | exact HB.out | apply below_alloc | apply pw_below_drewN | apply below_drew1 | refine below_set ?_ ad.out) | exact HB.out)⟩
                 ·rw [if_neg c74] at H
                  have c74b0 : decide (0 < (x8_5.length : Int)) = false := decide_eq_false c74
                  have c74b1 : decide (0 < x8_5.length) = false := decide_eq_false (by omega)
                  clear c74
                  obtain rfl := Option.some.inj H
                  have hcz84_0 : wc.cell? ⟨ab, 0, none⟩ = some (.int .i64 aj) := (blk_cell aa.out 0).trans rfl
                  have hcz84_1 : wc.cell? ⟨ab, 1, none⟩ = some (.int .i64 ah) := (blk_cell aa.out 1).trans rfl
                  have hcz84_2 : wc.cell? ⟨ab, 2, none⟩ = some (.int .i64 ai) := (blk_cell aa.out 2).trans rfl
                  have hcz84_3 : wc.cell? ⟨ab, 3, none⟩ = some (.slice an ae.length ao) := (blk_cell aa.out 3).trans rfl
                  have hcz84_4 : wc.cell? ⟨ab, 4, none⟩ = some (.slice au ac.length ap) := (blk_cell aa.out 4).trans rfl
                  have hcz84_5 : wc.cell? ⟨ab, 5, none⟩ = some (.int .i64 ag) := (blk_cell aa.out 5).trans rfl
                  have hcz84_6 : wc.cell? ⟨ab, 6, none⟩ = some (.slice aq af.length ar) := (blk_cell aa.out 6).trans rfl
                  have hfz84_0 := blk_frozen aa.out 0
                  have hfz84_1 := blk_frozen aa.out 1
                  have hfz84_2 := blk_frozen aa.out 2
                  have hfz84_3 := blk_frozen aa.out 3
                  have hfz84_4 := blk_frozen aa.out 4
                  have hfz84_5 := blk_frozen aa.out 5
                  have hfz84_6 := blk_frozen aa.out 6
                  go_wp2_with (first | ((with_reducible refine gate_callee (f := 28) rfl ?_); refine goesL_ (some 92) rfl rfl Try.func28 (by kernel_rfl) rfl #[.slice none 0 0, .int .i64 ag, .int .i64 4] rfl (by (try simp only [List.map_toArray, List.map_cons, List.map_nil]); first | done | rfl) ?_; (refine (wire_number.calls kj64 (fun k_ => some k_ = (.slice none 0 0 : Value).ownBlock) (.slice none 0 0) ([] : List Int) ag 4 t304 w _ ?side1 ?side2 A72.out).mono ?_); (case side1 => repeat (first | (with_reducible first | exact HB.out | apply below_alloc | apply pw_below_drewN | apply below_drew1 | refine below_set ?_ ad.out) | exact HB.out)); (case side2 => exact Kd.R_nil _ _ _ _ _); rintro e w85 ⟨v305, rfl, ho0, hb, hkp⟩; refine ⟨_, rfl, ?_⟩; have n0_ := Aside0.mk (Kd.R_mono (ok' := fun k_ => some k_ ≠ (u8 : Value).ownBlock ∧ some k_ ≠ (v305 : Value).ownBlock) (Kd.R_keptB (HO_3.out) hkp (fun k_ hk_ hs_ => (fun e_ => by simp [Value.ownBlock] at e_) hs_)) (fun k_ hk_ => ⟨hk_.1, fun e_ => Or.elim (ho0.1 k_ e_.symm) (fun hs_ => hk_.2.1 hs_) (fun hn_ => Nat.not_le.2 hk_.2.2 hn_)⟩)); have n1_ := Aside0.mk (Kd.R_mono (ok' := fun k_ => some k_ ≠ (u3 : Value).ownBlock ∧ some k_ ≠ (v305 : Value).ownBlock) (Kd.R_keptB (HO_8.out) hkp (fun k_ hk_ hs_ => (fun e_ => by simp [Value.ownBlock] at e_) hs_)) (fun k_ hk_ => ⟨hk_.1, fun e_ => Or.elim (ho0.1 k_ e_.symm) (fun hs_ => hk_.2.1 hs_) (fun hn_ => Nat.not_le.2 hk_.2.2 hn_)⟩)); have n2_ := Aside0.mk (blk_kept (by (with_reducible repeat (first | refine blk_drewN ?_ _ | refine blk_drew ?_ | refine blk_alloc ?_ _)); exact aa.out) hkp (fun hs_ => (fun e_ => by simp [Value.ownBlock] at e_) hs_)); have n3_ := Aside0.mk (Kd.R_mono (ok' := fun k_ => some k_ ≠ (u3 : Value).ownBlock ∧ some k_ ≠ (u8 : Value).ownBlock) ho0 (fun k_ hk_ => ⟨Or.elim hk_ (fun hs_ => absurd hs_ (by simp [Value.ownBlock])) (fun hn_ => (Kd.fresh' (Kd.R_lt (by (with_reducible repeat (first | apply Kd.R_alloc | apply Kd.R_drewN | apply Kd.R_drew)); exact HO_3.out)) k_ hn_)), Or.elim hk_ (fun hs_ => absurd hs_ (by simp [Value.ownBlock])) (fun hn_ => (Kd.fresh' (Kd.R_lt (by (with_reducible repeat (first | apply Kd.R_alloc | apply Kd.R_drewN | apply Kd.R_drew)); exact HO_8.out)) k_ hn_))⟩)); have n4_ := Aside0.mk (hb); clear HO_3; clear HO_8; clear aa; clear HB; have HO_3 := n0_; have HO_8 := n1_; have aa := n2_; have am := n3_; have HB := n4_; clear n0_ n1_ n2_ n3_ n4_; (try clear hb); (try clear hkp); (try clear ho0); obtain ⟨Ao86, co86, eo86⟩ := Kd.R_slice HO_3.out; subst eo86; obtain ⟨Ao87, co87, eo87⟩ := Kd.R_slice am.out; subst eo87) | ((with_reducible refine gate_callee (f := 63) rfl ?_); refine goesL_ (some 93) rfl rfl Try.func63 (by kernel_rfl) rfl #[.slice Ao86 x3_64.length co86, .int .u8 128, .int .u8 9, .slice Ao87 t304.length co87] rfl (by (try simp only [List.map_toArray, List.map_cons, List.map_nil]); first | done | rfl) ?_; (with_reducible refine (wire_one.calls (fun k_ => some k_ = (.slice Ao86 x3_64.length co86 : Value).ownBlock) (.slice Ao86 x3_64.length co86) x3_64 128 9 _ _ t304 t307 w _ ?side1 ?side2 ?side3 ?side4 A73.out).mono ?_); (case side1 => repeat (first | (with_reducible first | exact HB.out | apply below_alloc | apply pw_below_drewN | apply below_drew1 | refine below_set ?_ ad.out) | exact HB.out)); (case side2 | side4 => first | exact Kd.R_tight rfl HO_3.out | exact (Kd.R_reads' am.out).2.1); (case side3 => exact Kd.C_kept_own (am.out) (fun k_ hk_ hs_ => (hk_.1) hs_)); rintro e w88 ⟨v308, rfl, ho0, hb, hkp⟩; refine ⟨_, rfl, ?_⟩; have n0_ := Aside0.mk (Kd.R_mono (ok' := fun k_ => some k_ ≠ (.slice Ao87 t304.length co87 : Value).ownBlock ∧ some k_ ≠ (v308 : Value).ownBlock) (Kd.R_keptB (HO_8.out) hkp (fun k_ hk_ hs_ => (hk_.1) hs_)) (fun k_ hk_ => ⟨hk_.1.2, fun e_ => Or.elim (ho0.1 k_ e_.symm) (fun hs_ => hk_.2.1 hs_) (fun hn_ => Nat.not_le.2 hk_.2.2 hn_)⟩)); have n1_ := Aside0.mk (blk_kept (by (with_reducible repeat (first | refine blk_drewN ?_ _ | refine blk_drew ?_ | refine blk_alloc ?_ _)); exact aa.out) hkp (fun hs_ => (fun e_ => (Kd.R_ne HO_3.out aa.out (by decide)) e_) hs_)); have n2_ := Aside0.mk (Kd.R_mono (ok' := fun k_ => some k_ ≠ (u8 : Value).ownBlock ∧ some k_ ≠ (v308 : Value).ownBlock) (Kd.R_keptB (am.out) hkp (fun k_ hk_ hs_ => (hk_.1) hs_)) (fun k_ hk_ => ⟨hk_.1.2, fun e_ => Or.elim (ho0.1 k_ e_.symm) (fun hs_ => hk_.2.1 hs_) (fun hn_ => Nat.not_le.2 hk_.2.2 hn_)⟩)); have n3_ := Aside0.mk (Kd.R_mono (ok' := fun k_ => some k_ ≠ (u8 : Value).ownBlock ∧ some k_ ≠ (.slice Ao87 t304.length co87 : Value).ownBlock) ho0 (fun k_ hk_ => ⟨Or.elim hk_ (fun hs_ => fun e_ => (((HO_8.out).1 k_ e_.symm).1) hs_) (fun hn_ => (Kd.fresh' (Kd.R_lt (by (with_reducible repeat (first | apply Kd.R_alloc | apply Kd.R_drewN | apply Kd.R_drew)); exact HO_8.out)) k_ hn_)), Or.elim hk_ (fun hs_ => fun e_ => (((am.out).1 k_ e_.symm).1) hs_) (fun hn_ => (Kd.fresh' (Kd.R_lt (by (with_reducible repeat (first | apply Kd.R_alloc | apply Kd.R_drewN | apply Kd.R_drew)); exact am.out)) k_ hn_))⟩)); have n4_ := Aside0.mk (hb); clear HO_8; clear aa; clear am; clear HB; clear HO_3; have HO_8 := n0_; have aa := n1_; have am := n2_; have HO309 := n3_; have HB := n4_; clear n0_ n1_ n2_ n3_ n4_; (try clear hb); (try clear hkp); (try clear ho0); obtain ⟨Ao89, co89, eo89⟩ := Kd.R_slice HO_8.out; subst eo89))
                  go_ret
                  exact ⟨_, by first | rfl | (simp [errW_none, errW_some] <;> rfl) | (simp [*, errW_none, errW_some] <;> rfl), by (with_reducible repeat (first | apply Kd.R_alloc | apply Kd.R_drewN | apply Kd.R_drew)); exact Kd.R_mono HO309.out (fun _ hk => trivial), by repeat (first | (with_reducible first | exact HB.out | apply below_alloc | apply pw_below_drewN | apply below_drew1 | refine below_set ?_ ad.out) | exact HB.out)⟩
                ·rw [if_neg c71] at H
                 have c71b0 : decide (0 < ag) = false := decide_eq_false c71
                 clear c71
                 by_cases c90 : (x8_5.length : Int) > 0
                 ·rw [if_pos c90] at H
                  have c90b0 : decide (0 < (x8_5.length : Int)) = true := decide_eq_true c90
                  have c90b1 : decide (0 < x8_5.length) = true := decide_eq_true (by omega)
                  clear c90
                  replace H := Option.bind_eq_some_iff.mp H
                  obtain ⟨t313, A910, H⟩ := H
                  replace H : (some t313) = some r := H
                  have A91 := Aside0.mk A910
                  clear A910
                  obtain rfl := Option.some.inj H
                  have hcz92_0 : wc.cell? ⟨ab, 0, none⟩ = some (.int .i64 aj) := (blk_cell aa.out 0).trans rfl
                  have hcz92_1 : wc.cell? ⟨ab, 1, none⟩ = some (.int .i64 ah) := (blk_cell aa.out 1).trans rfl
                  have hcz92_2 : wc.cell? ⟨ab, 2, none⟩ = some (.int .i64 ai) := (blk_cell aa.out 2).trans rfl
                  have hcz92_3 : wc.cell? ⟨ab, 3, none⟩ = some (.slice an ae.length ao) := (blk_cell aa.out 3).trans rfl
                  have hcz92_4 : wc.cell? ⟨ab, 4, none⟩ = some (.slice au ac.length ap) := (blk_cell aa.out 4).trans rfl
                  have hcz92_5 : wc.cell? ⟨ab, 5, none⟩ = some (.int .i64 ag) := (blk_cell aa.out 5).trans rfl
                  have hcz92_6 : wc.cell? ⟨ab, 6, none⟩ = some (.slice aq af.length ar) := (blk_cell aa.out 6).trans rfl
                  have hfz92_0 := blk_frozen aa.out 0
                  have hfz92_1 := blk_frozen aa.out 1
                  have hfz92_2 := blk_frozen aa.out 2
                  have hfz92_3 := blk_frozen aa.out 3
                  have hfz92_4 := blk_frozen aa.out 4
                  have hfz92_5 := blk_frozen aa.out 5
                  have hfz92_6 := blk_frozen aa.out 6
                  obtain ⟨Ao93, co93, eo93⟩ := Kd.R_slice HO_8.out
                  subst eo93
                  obtain ⟨Ao94, co94, eo94⟩ := Kd.R_slice HO_3.out
                  subst eo94
                  go_wp2_with (first | ((with_reducible refine gate_callee (f := 63) rfl ?_); refine goesL_ (some 99) rfl rfl Try.func63 (by kernel_rfl) rfl #[.slice Ao94 x3_64.length co94, .int .u8 128, .int .u8 10, .slice Ao93 x8_5.length co93] rfl (by (try simp only [List.map_toArray, List.map_cons, List.map_nil]); first | done | rfl) ?_; (with_reducible refine (wire_one.calls (fun k_ => some k_ = (.slice Ao94 x3_64.length co94 : Value).ownBlock) (.slice Ao94 x3_64.length co94) x3_64 128 10 _ _ x8_5 t313 w _ ?side1 ?side2 ?side3 ?side4 A91.out).mono ?_); (case side1 => repeat (first | (with_reducible first | exact HB.out | apply below_alloc | apply pw_below_drewN | apply below_drew1 | refine below_set ?_ ad.out) | exact HB.out)); (case side2 | side4 => first | exact Kd.R_tight rfl HO_3.out | exact (Kd.R_reads' HO_8.out).2.1); (case side3 => exact Kd.C_kept_own (HO_8.out) (fun k_ hk_ hs_ => (hk_) hs_)); rintro e w95 ⟨v314, rfl, ho0, hb, hkp⟩; refine ⟨_, rfl, ?_⟩; have n0_ := Aside0.mk (Kd.R_mono (ok' := fun k_ => some k_ ≠ (v314 : Value).ownBlock) (Kd.R_keptB (HO_8.out) hkp (fun k_ hk_ hs_ => (hk_) hs_)) (fun k_ hk_ => fun e_ => Or.elim (ho0.1 k_ e_.symm) (fun hs_ => hk_.2.1 hs_) (fun hn_ => Nat.not_le.2 hk_.2.2 hn_))); have n1_ := Aside0.mk (blk_kept (by (with_reducible repeat (first | refine blk_drewN ?_ _ | refine blk_drew ?_ | refine blk_alloc ?_ _)); exact aa.out) hkp (fun hs_ => (fun e_ => (Kd.R_ne HO_3.out aa.out (by decide)) e_) hs_)); have n2_ := Aside0.mk (Kd.R_mono (ok' := fun k_ => some k_ ≠ (.slice Ao93 x8_5.length co93 : Value).ownBlock) ho0 (fun k_ hk_ => Or.elim hk_ (fun hs_ => fun e_ => (((HO_8.out).1 k_ e_.symm)) hs_) (fun hn_ => (Kd.fresh' (Kd.R_lt (by (with_reducible repeat (first | apply Kd.R_alloc | apply Kd.R_drewN | apply Kd.R_drew)); exact HO_8.out)) k_ hn_)))); have n3_ := Aside0.mk (hb); clear HO_8; clear aa; clear HB; clear HO_3; have HO_8 := n0_; have aa := n1_; have HO315 := n2_; have HB := n3_; clear n0_ n1_ n2_ n3_; (try clear hb); (try clear hkp); (try clear ho0)))
                  go_ret
                  exact ⟨_, by first | rfl | (simp [errW_none, errW_some] <;> rfl) | (simp [*, errW_none, errW_some] <;> rfl), by (with_reducible repeat (first | apply Kd.R_alloc | apply Kd.R_drewN | apply Kd.R_drew)); exact Kd.R_mono HO315.out (fun _ hk => trivial), by repeat (first | (with_reducible first | exact HB.out | apply below_alloc | apply pw_below_drewN | apply below_drew1 | refine below_set ?_ ad.out) | exact HB.out)⟩
                 ·rw [if_neg c90] at H
                  have c90b0 : decide (0 < (x8_5.length : Int)) = false := decide_eq_false c90
                  have c90b1 : decide (0 < x8_5.length) = false := decide_eq_false (by omega)
                  clear c90
                  obtain rfl := Option.some.inj H
                  have hcz96_0 : wc.cell? ⟨ab, 0, none⟩ = some (.int .i64 aj) := (blk_cell aa.out 0).trans rfl
                  have hcz96_1 : wc.cell? ⟨ab, 1, none⟩ = some (.int .i64 ah) := (blk_cell aa.out 1).trans rfl
                  have hcz96_2 : wc.cell? ⟨ab, 2, none⟩ = some (.int .i64 ai) := (blk_cell aa.out 2).trans rfl
                  have hcz96_3 : wc.cell? ⟨ab, 3, none⟩ = some (.slice an ae.length ao) := (blk_cell aa.out 3).trans rfl
                  have hcz96_4 : wc.cell? ⟨ab, 4, none⟩ = some (.slice au ac.length ap) := (blk_cell aa.out 4).trans rfl
                  have hcz96_5 : wc.cell? ⟨ab, 5, none⟩ = some (.int .i64 ag) := (blk_cell aa.out 5).trans rfl
                  have hcz96_6 : wc.cell? ⟨ab, 6, none⟩ = some (.slice aq af.length ar) := (blk_cell aa.out 6).trans rfl
                  have hfz96_0 := blk_frozen aa.out 0
                  have hfz96_1 := blk_frozen aa.out 1
                  have hfz96_2 := blk_frozen aa.out 2
                  have hfz96_3 := blk_frozen aa.out 3
                  have hfz96_4 := blk_frozen aa.out 4
                  have hfz96_5 := blk_frozen aa.out 5
                  have hfz96_6 := blk_frozen aa.out 6
                  obtain ⟨Ao97, co97, eo97⟩ := Kd.R_slice HO_8.out
                  subst eo97
                  go_wp2
                  go_ret
                  exact ⟨_, by first | rfl | (simp [errW_none, errW_some] <;> rfl) | (simp [*, errW_none, errW_some] <;> rfl), by (with_reducible repeat (first | apply Kd.R_alloc | apply Kd.R_drewN | apply Kd.R_drew)); exact Kd.R_mono HO_3.out (fun _ hk => trivial), by repeat (first | (with_reducible first | exact HB.out | apply below_alloc | apply pw_below_drewN | apply below_drew1 | refine below_set ?_ ad.out) | exact HB.out)⟩

end Go.Proofs.Ytjmpojfpbhihpaa.P

end

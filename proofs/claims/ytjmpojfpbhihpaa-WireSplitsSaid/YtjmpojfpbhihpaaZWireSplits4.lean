/- Part of the proof of RowWireSplits: what it asks of functions, words and plain facts (put together by this session's own program, wip/tools/shake.py). -/
import Derived.Test.YtjmpojfpbhihpaaZWireSplits0
import Derived.Test.YtjmpojfpbhihpaaZWireSplits1
import Derived.Test.YtjmpojfpbhihpaaZWireSplits2
import Derived.Test.YtjmpojfpbhihpaaZWireSplits3
import Derived.Lib.MakeNoZero
import Derived.Laws.CopyOwn
import Derived.ArgAppend
import Derived.Laws.OwnMore
import Derived.Laws.AppendOwnNone
import Derived.Deep.RegionLaw
section
namespace Go.Proofs.Ytjmpojfpbhihpaa.P
open Go.RowKit Go.Proofs.YtjmpojfpbhihpaaW.PrintWords Go.Proofs.YtjmpojfpbhihpaaW.PrintLast Go.Proofs.YtjmpojfpbhihpaaW.PrintMore
attribute [local go_sem] max2_int min2_int max_two min_two max_three min_three max_four min_four   -- for this text's walks alone
set_option linter.unusedVariables false
set_option linter.unusedSimpArgs false

mutual
def wire_attributes.j0 : Nat → List Int → List Int → Int → Int → Int → List Int → List (S102) → Int → List Int → Option (List Int)
  | 0, _, _, _, _, _, _, _, _, _ => none
  | k + 1, x3, x4, x208000, x208001, x208002, x208003, x208004, x208005, x208006 => wire_attributes.l0 k x3 x4 x208003 (x208003.length : Int) 0 x208000 x208001 x208002 x208003 x208004 x208005 x208006
def wire_attributes.l0 : Nat → List Int → List Int → List Int → Int → Int → Int → Int → Int → List Int → List (S102) → Int → List Int → Option (List Int)
  | 0, _, _, _, _, _, _, _, _, _, _, _, _ => none
  | k + 1, x3, x4, x28, x29, x30, x208000, x208001, x208002, x208003, x208004, x208005, x208006 => if x30 < x29 then (if 0 ≤ x30 then (if x30 < (x28.length : Int) then ((wire_number.f k x4 (rd x28 x30) 2).bind fun t218 => (wire_attributes.l0 k x3 t218 x28 x29 (wrap64 (x30 + 1)) x208000 x208001 x208002 x208003 x208004 x208005 x208006)) else (none)) else (none)) else ((wire_one.f x3 64 2 x4).bind fun t221 => (if x208001 > 0 then ((wire_number.f k ([] : List Int) x208001 4).bind fun t224 => ((wire_one.f t221 128 4 t224).bind fun t227 => (wire_attributes.j2 k t227 x208000 x208001 x208002 x208003 x208004 x208005 x208006))) else (wire_attributes.j2 k t221 x208000 x208001 x208002 x208003 x208004 x208005 x208006)))
def wire_attributes.j2 : Nat → List Int → Int → Int → Int → List Int → List (S102) → Int → List Int → Option (List Int)
  | 0, _, _, _, _, _, _, _, _ => none
  | k + 1, x3, x208000, x208001, x208002, x208003, x208004, x208005, x208006 => (wire_number.f k ([] : List Int) x208000 4).bind fun t230 => ((wire_one.f x3 64 5 t230).bind fun t233 => (wire_attributes.l1 k t233 ([] : List Int) x208004 (x208004.length : Int) 0 x208000 x208001 x208002 x208003 x208004 x208005 x208006))
def wire_attributes.l1 : Nat → List Int → List Int → List (S102) → Int → Int → Int → Int → Int → List Int → List (S102) → Int → List Int → Option (List Int)
  | 0, _, _, _, _, _, _, _, _, _, _, _, _ => none
  | k + 1, x3, x7, x55, x56, x57, x208000, x208001, x208002, x208003, x208004, x208005, x208006 => if x57 < x56 then (if 0 ≤ x57 then (if x57 < (x55.length : Int) then ((wire_number.f k x7 ((rd_T102 x55 x57).f0) 2).bind fun t238 => ((wire_number.f k t238 ((rd_T102 x55 x57).f1) 2).bind fun t241 => (wire_attributes.l1 k x3 t241 x55 x56 (wrap64 (x57 + 1)) x208000 x208001 x208002 x208003 x208004 x208005 x208006))) else (none)) else (none)) else (wire_attributes.l2 k x3 x7 ([] : List Int) x208006 (x208006.length : Int) 0 x208000 x208001 x208002 x208003 x208004 x208005 x208006)
def wire_attributes.l2 : Nat → List Int → List Int → List Int → List Int → Int → Int → Int → Int → Int → List Int → List (S102) → Int → List Int → Option (List Int)
  | 0, _, _, _, _, _, _, _, _, _, _, _, _, _ => none
  | k + 1, x3, x7, x8, x70, x71, x72, x208000, x208001, x208002, x208003, x208004, x208005, x208006 => if x72 < x71 then (if 0 ≤ x72 then (if x72 < (x70.length : Int) then ((wire_number.f k x8 (rd x70 x72) 4).bind fun t245 => (wire_attributes.l2 k x3 x7 t245 x70 x71 (wrap64 (x72 + 1)) x208000 x208001 x208002 x208003 x208004 x208005 x208006)) else (none)) else (none)) else (if (x7.length : Int) > 0 then ((wire_one.f x3 192 8 x7).bind fun t248 => (wire_attributes.j5 k t248 x8 x208000 x208001 x208002 x208003 x208004 x208005 x208006)) else (wire_attributes.j5 k x3 x8 x208000 x208001 x208002 x208003 x208004 x208005 x208006))
def wire_attributes.j5 : Nat → List Int → List Int → Int → Int → Int → List Int → List (S102) → Int → List Int → Option (List Int)
  | 0, _, _, _, _, _, _, _, _, _ => none
  | k + 1, x3, x8, x208000, x208001, x208002, x208003, x208004, x208005, x208006 => if x208005 > 0 then ((wire_number.f k ([] : List Int) x208005 4).bind fun t251 => ((wire_one.f x3 128 9 t251).bind fun t254 => (if (x8.length : Int) > 0 then ((wire_one.f t254 128 10 x8).bind fun t257 => (some t257)) else (some t254)))) else (if (x8.length : Int) > 0 then ((wire_one.f x3 128 10 x8).bind fun t260 => (some t260)) else (some x3))
end
def wire_attributes.f (k : Nat) (a0_0 : Int) (a0_1 : Int) (a0_2 : Int) (l0_3 : List Int) (l0_4 : List (S102)) (a0_5 : Int) (l0_6 : List Int) : Option (List Int) := (wire_one.f ([] : List Int) 64 1 (([(a0_2) % 256] : List Int))).bind fun t211 => (if (l0_3.length : Int) > 0 then (wire_attributes.j0 k t211 (([2, ((l0_3.length : Int)) % 256] : List Int)) a0_0 a0_1 a0_2 l0_3 l0_4 a0_5 l0_6) else (wire_attributes.j0 k t211 ([] : List Int) a0_0 a0_1 a0_2 l0_3 l0_4 a0_5 l0_6))
def wire_attributes.T18 : Bool × List (List Nat × List Nat) := (true, [([], []), ([], []), ([1], [1]), ([0, 2], [0, 2]), ([], []), ([4], [4]), ([3, 5, 3], [3, 5]), ([6, 6, 0, 1, 2, 3, 4, 5, 6], [0, 6])])
def wire_attributes.B18 : List Nat := [0, 0, 2, 7, 0, 16, 63, 127]
theorem wire_attributes.tab18 : rtab .any (opsOf Try.f36 18) = wire_attributes.T18 := by kernel_rfl
theorem wire_attributes.bits18 : waitsOk wire_attributes.T18.2 wire_attributes.B18 = true := by kernel_rfl
theorem k0567.b2e {W : World} {g : Nat} {v0 v1 : Value} {t : TypeId} (h : W.heap[g]? = some (.cells #[v0, v1] t (0, 0))) : W.cell? ⟨g, 0, none⟩ = some v0 ∧ W.cell? ⟨g, 1, none⟩ = some v1 :=
  ⟨(blk_cell h 0).trans rfl, (blk_cell h 1).trans rfl⟩
set_option maxHeartbeats 8000000 in
set_option maxRecDepth 100000 in
theorem wire_attributes.calls (k : Nat) (aj : Int) (ah : Int) (ai : Int) (an : Option Addr) (ao : Nat) (ae : List Int) (au : Option Addr) (ap : Nat) (ac : List (S102)) (ag : Int) (aq : Option Addr) (ar : Nat) (af : List Int) (r : List Int) (w : World) (hr0_3 : Kd.C (Kd.int .i64) w an ae.length ae) (hc0_3 : ae.length ≤ ao) (hr0_4 : Kd.C k102 w au ac.length ac) (hc0_4 : ac.length ≤ ap) (hr0_6 : Kd.C (Kd.int .i64) w aq af.length af) (hc0_6 : af.length ≤ ar) (h : wire_attributes.f k aj ah ai ae ac ag af = some r) :
  Calls Try.prog 36 #[.agg #[.int .i64 aj, .int .i64 ah, .int .i64 ai, .slice an ae.length ao, .slice au ac.length ap, .int .i64 ag, .slice aq af.length ar]] w fun e w' => ∃ v0_ : Value, e = .returned (v0_) ∧ Kd.R (Kd.int .u8) 5 w' w.heap.size (fun _ => True) v0_ r ∧ Below w.heap.size w w' := by
 have hu41 := Try.underlying41
 have hu102 := Try.underlying102
 have HR0_3 := Aside0.mk hr0_3
 have HC0_3 := Aside0.mk hc0_3
 clear hr0_3 hc0_3
 have HR0_4 := Aside0.mk hr0_4
 have HC0_4 := Aside0.mk hc0_4
 clear hr0_4 hc0_4
 have HR0_6 := Aside0.mk hr0_6
 have HC0_6 := Aside0.mk hc0_6
 clear hr0_6 hc0_6
 have HB := Aside0.mk (Below.refl w.heap.size w)
 have H := h
 unfold wire_attributes.f at H
 clear h
 obtain ⟨y208, hy208⟩ : ∃ y_ : List Int, y_ = (([(ai) % 256] : List Int)) := ⟨_, rfl⟩
 replace H : ((wire_one.f ([] : List Int) 64 1 y208).bind fun t211 => (if (ae.length : Int) > 0 then (wire_attributes.j0 k t211 (([2, ((ae.length : Int)) % 256] : List Int)) aj ah ai ae ac ag af) else (wire_attributes.j0 k t211 ([] : List Int) aj ah ai ae ac ag af))) = some r := by first | (rw [hy208]; with_reducible exact H) | (have H2_ := (Option.bind_some _ _).symm.trans H; rw [hy208]; with_reducible exact H2_) | (have H2_ := (Option.bind_some _ _).symm.trans H; with_reducible exact H2_) | with_reducible exact H | (rw [hy208]; exact H) | exact H
 have Ny208 := Aside0.mk hy208
 clear hy208
 replace H := Option.bind_eq_some_iff.mp H
 obtain ⟨t211, A20, H⟩ := H
 (try dsimp only at H)
 have A2 := Aside0.mk A20
 clear A20
 have HC3 := Aside0.mk H
 clear H
 go_enter Try.func36, Try.ntmps36
 go_upto_if 21 with (first | ((with_reducible refine gate_dst (N := 1) rfl ?_); refine box_event ?hg (N := 1) ?hd (cs := #[.int .i64 aj, .int .i64 ah, .int .i64 ai, .slice an ae.length ao, .slice au ac.length ap, .int .i64 ag, .slice aq af.length ar]) (t := 41) ?hr ?_; (case hd => rfl); (case hg => rfl); (case hr => first | (go_simp; done) | (go_simp; rfl)); intro ab hg w4 hbox hb; have n0_ := Aside0.mk (below_step (by repeat (first | (with_reducible first | exact HB.out | apply below_alloc | apply pw_below_drewN | apply below_drew1) | exact HB.out)) hb); have n1_ := Aside0.mk (hbox); have n2_ := Aside0.mk ((by rw [hg]; exact (below_size (by repeat (first | (with_reducible first | exact HB.out | apply below_alloc | apply pw_below_drewN | apply below_drew1) | exact HB.out))) : w.heap.size ≤ ab)); have n3_ := Aside0.mk ((by rw [hg]; exact (below_size (by repeat (first | (with_reducible first | exact HB.out | apply below_alloc | apply pw_below_drewN | apply below_drew1) | exact HB.out))) : w.heap.size ≤ ab)); clear HB; have HB := n0_; have aa := n1_; have GW207 := n2_; have ad := n3_; clear n0_ n1_ n2_ n3_; clear hb hbox hg; have hcz5_0 : w4.cell? ⟨ab, 0, none⟩ = some (.int .i64 aj) := (blk_cell aa.out 0).trans rfl; have hcz5_1 : w4.cell? ⟨ab, 1, none⟩ = some (.int .i64 ah) := (blk_cell aa.out 1).trans rfl; have hcz5_2 : w4.cell? ⟨ab, 2, none⟩ = some (.int .i64 ai) := (blk_cell aa.out 2).trans rfl; have hcz5_3 : w4.cell? ⟨ab, 3, none⟩ = some (.slice an ae.length ao) := (blk_cell aa.out 3).trans rfl; have hcz5_4 : w4.cell? ⟨ab, 4, none⟩ = some (.slice au ac.length ap) := (blk_cell aa.out 4).trans rfl; have hcz5_5 : w4.cell? ⟨ab, 5, none⟩ = some (.int .i64 ag) := (blk_cell aa.out 5).trans rfl; have hcz5_6 : w4.cell? ⟨ab, 6, none⟩ = some (.slice aq af.length ar) := (blk_cell aa.out 6).trans rfl; have hfz5_0 := blk_frozen aa.out 0; have hfz5_1 := blk_frozen aa.out 1; have hfz5_2 := blk_frozen aa.out 2; have hfz5_3 := blk_frozen aa.out 3; have hfz5_4 := blk_frozen aa.out 4; have hfz5_5 := blk_frozen aa.out 5; have hfz5_6 := blk_frozen aa.out 6) | ((with_reducible refine gate_dst (N := 16) rfl ?_); refine Kd.R_lit (Kd.int .u8) _ 5 ?hg (N := 16) ?hd (xs := ([(ai) % 256] : List Int)) (inner := [.int .u8 ((ai) % 256)]) (ok := fun _ => True) (okp := fun _ => True) ?hr ?hp (fun _ hk => hk) trivial (Below.refl _ _) (Nat.le_refl _) (by simp) ?_; (case hd => rfl); (case hg => rfl); (case hr => first | (go_simp; done) | (go_simp; rfl)); (case hp => exact (Reps.one (show Kd.M (Kd.int .u8) _ _ _ ((ai) % 256) [.int .u8 ((ai) % 256)] from rfl) (Reps.none _ _))); intro v209 w6 ho7 hb hg_ hnew_; clear hg_ hnew_; (first | rw [← Ny208.out] at ho7 | (simp only [Int.reduceToNat] at ho7; rw [← Ny208.out] at ho7)); have av := Aside0.mk (Kd.R_lower ho7 (below_size (by repeat (first | (with_reducible first | exact HB.out | apply below_alloc | apply pw_below_drewN | apply below_drew1 | refine below_set ?_ ad.out) | exact HB.out)))); replace aa := Aside0.mk (blk_below (g := ab) (by (with_reducible repeat (first | refine blk_drewN ?_ _ | refine blk_drew ?_ | refine blk_alloc ?_ _)); exact aa.out) hb); replace HB := Aside0.mk (below_step (by repeat (first | (with_reducible first | exact HB.out | apply below_alloc | apply pw_below_drewN | apply below_drew1 | refine below_set ?_ ad.out) | exact HB.out)) hb); clear hb ho7; obtain ⟨Ao8, co8, eo8⟩ := Kd.R_slice av.out; subst eo8) | ((with_reducible refine gate_callee (f := 63) rfl ?_); refine goesL_ (some 17) rfl rfl Try.func63 (by kernel_rfl) rfl #[.slice none 0 0, .int .u8 64, .int .u8 1, .slice Ao8 y208.length co8] rfl (by (try simp only [List.map_toArray, List.map_cons, List.map_nil]); first | done | rfl) ?_; (refine (wire_one.calls (fun k_ => some k_ = (.slice none 0 0 : Value).ownBlock) (.slice none 0 0) ([] : List Int) 64 1 _ _ y208 t211 w _ ?side1 ?side2 ?side3 ?side4 A2.out).mono ?_); (case side1 => repeat (first | (with_reducible first | exact HB.out | apply below_alloc | apply pw_below_drewN | apply below_drew1 | refine below_set ?_ ad.out) | exact HB.out)); (case side2 | side4 => first | exact Kd.R_nil _ _ _ _ _ | exact (Kd.R_reads' av.out).2.1); (case side3 => exact Kd.C_kept_own (av.out) (fun k_ hk_ hs_ => (fun e_ => by simp [Value.ownBlock] at e_) hs_)); rintro e w9 ⟨v212, rfl, ho0, hb, hkp⟩; refine ⟨_, rfl, ?_⟩; have n0_ := Aside0.mk (blk_kept (by (with_reducible repeat (first | refine blk_drewN ?_ _ | refine blk_drew ?_ | refine blk_alloc ?_ _)); exact aa.out) hkp (fun hs_ => (fun e_ => by simp [Value.ownBlock] at e_) hs_)); have n1_ := Aside0.mk (Kd.R_mono (ok' := fun k_ => some k_ ≠ (v212 : Value).ownBlock) (Kd.R_keptB (av.out) hkp (fun k_ hk_ hs_ => (fun e_ => by simp [Value.ownBlock] at e_) hs_)) (fun k_ hk_ => fun e_ => Or.elim (ho0.1 k_ e_.symm) (fun hs_ => hk_.2.1 hs_) (fun hn_ => Nat.not_le.2 hk_.2.2 hn_))); have n2_ := Aside0.mk (Kd.R_mono (ok' := fun k_ => some k_ ≠ (.slice Ao8 y208.length co8 : Value).ownBlock) ho0 (fun k_ hk_ => Or.elim hk_ (fun hs_ => absurd hs_ (by simp [Value.ownBlock])) (fun hn_ => (Kd.fresh' (Kd.R_lt (by (with_reducible repeat (first | apply Kd.R_alloc | apply Kd.R_drewN | apply Kd.R_drew)); exact av.out)) k_ hn_)))); have n3_ := Aside0.mk (hb); clear aa; clear av; clear HB; have aa := n0_; have av := n1_; have HO213 := n2_; have HB := n3_; clear n0_ n1_ n2_ n3_; (try clear hb); (try clear hkp); (try clear ho0); have hcz10_0 : w9.cell? ⟨ab, 0, none⟩ = some (.int .i64 aj) := (blk_cell aa.out 0).trans rfl; have hcz10_1 : w9.cell? ⟨ab, 1, none⟩ = some (.int .i64 ah) := (blk_cell aa.out 1).trans rfl; have hcz10_2 : w9.cell? ⟨ab, 2, none⟩ = some (.int .i64 ai) := (blk_cell aa.out 2).trans rfl; have hcz10_3 : w9.cell? ⟨ab, 3, none⟩ = some (.slice an ae.length ao) := (blk_cell aa.out 3).trans rfl; have hcz10_4 : w9.cell? ⟨ab, 4, none⟩ = some (.slice au ac.length ap) := (blk_cell aa.out 4).trans rfl; have hcz10_5 : w9.cell? ⟨ab, 5, none⟩ = some (.int .i64 ag) := (blk_cell aa.out 5).trans rfl; have hcz10_6 : w9.cell? ⟨ab, 6, none⟩ = some (.slice aq af.length ar) := (blk_cell aa.out 6).trans rfl; have hfz10_0 := blk_frozen aa.out 0; have hfz10_1 := blk_frozen aa.out 1; have hfz10_2 := blk_frozen aa.out 2; have hfz10_3 := blk_frozen aa.out 3; have hfz10_4 := blk_frozen aa.out 4; have hfz10_5 := blk_frozen aa.out 5; have hfz10_6 := blk_frozen aa.out 6))
 (try simp only [Act.put, List.setIfInBounds_toArray, List.set_cons_zero, List.set_cons_succ])
 go_cut [4] (fun v4 wc => ∃ (kq : Nat) (x4_2 : List Int), Aside0 (wire_attributes.j0 kq t211 x4_2 aj ah ai ae ac ag af = some r) ∧ Aside0 (kq ≤ k) ∧ Aside0 (Kd.R (Kd.int .u8) 5 wc w.heap.size (fun k_ => some k_ ≠ (v4 : Value).ownBlock) v212 t211) ∧ Aside0 (Kd.R (Kd.int .u8) 5 wc w.heap.size (fun k_ => some k_ ≠ (v212 : Value).ownBlock) v4 x4_2) ∧ Aside0 (wc.heap[ab]? = some (.cells #[.int .i64 aj, .int .i64 ah, .int .i64 ai, (.slice an ae.length ao), (.slice au ac.length ap), .int .i64 ag, (.slice aq af.length ar)] 41 (0, 0))) ∧ Aside0 (Below w.heap.size w wc))
 case first =>
  have H := HC3.out
  clear HC3
  by_cases az : (ae.length : Int) > 0
  ·rw [if_pos az] at H
   have c11b0 : decide (0 < (ae.length : Int)) = true := decide_eq_true az
   have c11b1 : decide (0 < ae.length) = true := decide_eq_true (by omega)
   clear az
   (first | rw [c11b0] | rw [c11b1] | (simp only [i64_w]; rw [c11b0]) | skip)
   obtain ⟨y214, hy214⟩ : ∃ y_ : List Int, y_ = (([2, ((ae.length : Int)) % 256] : List Int)) := ⟨_, rfl⟩
   replace H : (wire_attributes.j0 k t211 y214 aj ah ai ae ac ag af) = some r := by first | (rw [hy214]; with_reducible exact H) | (have H2_ := (Option.bind_some _ _).symm.trans H; rw [hy214]; with_reducible exact H2_) | (have H2_ := (Option.bind_some _ _).symm.trans H; with_reducible exact H2_) | with_reducible exact H | (rw [hy214]; exact H) | exact H
   have Ny214 := Aside0.mk hy214
   clear hy214
   have H' := Aside0.mk H
   clear H
   have hcz12_0 : w9.cell? ⟨ab, 0, none⟩ = some (.int .i64 aj) := (blk_cell aa.out 0).trans rfl
   have hcz12_1 : w9.cell? ⟨ab, 1, none⟩ = some (.int .i64 ah) := (blk_cell aa.out 1).trans rfl
   have hcz12_2 : w9.cell? ⟨ab, 2, none⟩ = some (.int .i64 ai) := (blk_cell aa.out 2).trans rfl
   have hcz12_3 : w9.cell? ⟨ab, 3, none⟩ = some (.slice an ae.length ao) := (blk_cell aa.out 3).trans rfl
   have hcz12_4 : w9.cell? ⟨ab, 4, none⟩ = some (.slice au ac.length ap) := (blk_cell aa.out 4).trans rfl
   have hcz12_5 : w9.cell? ⟨ab, 5, none⟩ = some (.int .i64 ag) := (blk_cell aa.out 5).trans rfl
   have hcz12_6 : w9.cell? ⟨ab, 6, none⟩ = some (.slice aq af.length ar) := (blk_cell aa.out 6).trans rfl
   have hfz12_0 := blk_frozen aa.out 0
   have hfz12_1 := blk_frozen aa.out 1
   have hfz12_2 := blk_frozen aa.out 2
   have hfz12_3 := blk_frozen aa.out 3
   have hfz12_4 := blk_frozen aa.out 4
   have hfz12_5 := blk_frozen aa.out 5
   have hfz12_6 := blk_frozen aa.out 6
   go_wp2_with (first | ((with_reducible refine gate_dst (N := 26) rfl ?_); refine Kd.R_lit (Kd.int .u8) _ 5 ?hg (N := 26) ?hd (xs := ([2, ((ae.length : Int)) % 256] : List Int)) (inner := [.int .u8 2, .int .u8 (((ae.length : Int)) % 256)]) (ok := fun _ => True) (okp := fun _ => True) ?hr ?hp (fun _ hk => hk) trivial (Below.refl _ _) (Nat.le_refl _) (by simp) ?_; (case hd => rfl); (case hg => rfl); (case hr => first | (go_simp; done) | (go_simp; rfl)); (case hp => exact (Reps.one (show Kd.M (Kd.int .u8) _ _ _ 2 [.int .u8 2] from rfl) (Reps.one (show Kd.M (Kd.int .u8) _ _ _ (((ae.length : Int)) % 256) [.int .u8 (((ae.length : Int)) % 256)] from rfl) (Reps.none _ _)))); intro v215 w13 ho14 hb hg_ hnew_; clear hg_ hnew_; (first | rw [← Ny214.out] at ho14 | (simp only [Int.reduceToNat] at ho14; rw [← Ny214.out] at ho14)); have n0_ := Aside0.mk (Kd.R_elder' (by (with_reducible repeat (first | apply Kd.R_alloc | apply Kd.R_drewN | apply Kd.R_drew)); exact av.out) (Kd.R_base ho14) hb); have n1_ := Aside0.mk (Kd.R_elder' (by (with_reducible repeat (first | apply Kd.R_alloc | apply Kd.R_drewN | apply Kd.R_drew)); exact HO213.out) (Kd.R_base ho14) hb); have n2_ := Aside0.mk (Kd.R_lower (Kd.R_new' (Kd.R_new' ho14 (Kd.R_lt (by (with_reducible repeat (first | apply Kd.R_alloc | apply Kd.R_drewN | apply Kd.R_drew)); exact av.out))) (Kd.R_lt (by (with_reducible repeat (first | apply Kd.R_alloc | apply Kd.R_drewN | apply Kd.R_drew)); exact HO213.out))) (below_size (by repeat (first | (with_reducible first | exact HB.out | apply below_alloc | apply pw_below_drewN | apply below_drew1 | refine below_set ?_ ad.out) | exact HB.out)))); have n3_ := Aside0.mk (blk_below (g := ab) (by (with_reducible repeat (first | refine blk_drewN ?_ _ | refine blk_drew ?_ | refine blk_alloc ?_ _)); exact aa.out) hb); have n4_ := Aside0.mk (below_step (by repeat (first | (with_reducible first | exact HB.out | apply below_alloc | apply pw_below_drewN | apply below_drew1 | refine below_set ?_ ad.out) | exact HB.out)) hb); clear av; clear HO213; clear aa; clear HB; have av := n0_; have HO213 := n1_; have HO216 := n2_; have aa := n3_; have HB := n4_; clear n0_ n1_ n2_ n3_ n4_; clear hb ho14))
   go_meet
   case rel => exact ⟨_, (y214), H', ⟨by first | omega | exact Nat.le_refl _⟩, ⟨by (with_reducible repeat (first | apply Kd.R_alloc | apply Kd.R_drewN | apply Kd.R_drew)); exact Kd.R_mono HO213.out (fun _ hk => hk.2)⟩, ⟨by (with_reducible repeat (first | apply Kd.R_alloc | apply Kd.R_drewN | apply Kd.R_drew)); exact Kd.R_mono HO216.out (fun _ hk => hk.2)⟩, ⟨by (with_reducible repeat (first | refine blk_drewN ?_ _ | refine blk_drew ?_ | refine blk_alloc ?_ _)); exact aa.out⟩, ⟨by repeat (first | (with_reducible first | exact HB.out | apply below_alloc | apply pw_below_drewN | apply below_drew1 | refine below_set ?_ ad.out) | exact HB.out)⟩⟩
  ·rw [if_neg az] at H
   have c11b0 : decide (0 < (ae.length : Int)) = false := decide_eq_false az
   have c11b1 : decide (0 < ae.length) = false := decide_eq_false (by omega)
   clear az
   (first | rw [c11b0] | rw [c11b1] | (simp only [i64_w]; rw [c11b0]) | skip)
   have H' := Aside0.mk H
   clear H
   go_wp2
   go_meet
   case rel => exact ⟨_, (([] : List Int)), H', ⟨by first | omega | exact Nat.le_refl _⟩, ⟨by (with_reducible repeat (first | apply Kd.R_alloc | apply Kd.R_drewN | apply Kd.R_drew)); exact Kd.R_mono HO213.out (fun _ hk => (by simp [Value.ownBlock]))⟩, ⟨by first | exact Kd.R_nil _ _ _ _ _ | exact Kd.N_nil _ _ _ _ _ | exact Kd.V_nil _ _ _ _ _ | exact Kd.Q_nil _ _ _ _ _ | exact Kd.S_nil _ _ _ _ _⟩, ⟨by (with_reducible repeat (first | refine blk_drewN ?_ _ | refine blk_drew ?_ | refine blk_alloc ?_ _)); exact aa.out⟩, ⟨by repeat (first | (with_reducible first | exact HB.out | apply below_alloc | apply pw_below_drewN | apply below_drew1 | refine below_set ?_ ad.out) | exact HB.out)⟩⟩
 case rest =>
  clear HC3
  try clear c1
  try clear p2
  try clear c3
  try clear c6
  try clear az
  try clear c11b0
  try clear c11b1
  try clear hcz10_0
  try clear hcz10_1
  try clear hcz10_2
  try clear hcz10_3
  try clear hcz10_4
  try clear hcz10_5
  try clear hcz10_6
  try clear hcz12_0
  try clear hcz12_1
  try clear hcz12_2
  try clear hcz12_3
  try clear hcz12_4
  try clear hcz12_5
  try clear hcz12_6
  try clear hcz5_0
  try clear hcz5_1
  try clear hcz5_2
  try clear hcz5_3
  try clear hcz5_4
  try clear hcz5_5
  try clear hcz5_6
  try clear hfz10_0
  try clear hfz10_1
  try clear hfz10_2
  try clear hfz10_3
  try clear hfz10_4
  try clear hfz10_5
  try clear hfz10_6
  try clear hfz12_0
  try clear hfz12_1
  try clear hfz12_2
  try clear hfz12_3
  try clear hfz12_4
  try clear hfz12_5
  try clear hfz12_6
  try clear hfz5_0
  try clear hfz5_1
  try clear hfz5_2
  try clear hfz5_3
  try clear hfz5_4
  try clear hfz5_5
  try clear hfz5_6
  obtain ⟨kq, x4_2, HA, HJ2, HO_3, HO_4, aa, HB⟩ := hcut
  cases kq with
  | zero => exact absurd HA.out (by simp [wire_attributes.j0])
  | succ kj2 =>
   have H := HA.out
   clear HA
   simp only [wire_attributes.j0] at H
   have H' := Aside0.mk H
   clear H
   have hcz15_0 : wc.cell? ⟨ab, 0, none⟩ = some (.int .i64 aj) := (blk_cell aa.out 0).trans rfl
   have hcz15_1 : wc.cell? ⟨ab, 1, none⟩ = some (.int .i64 ah) := (blk_cell aa.out 1).trans rfl
   have hcz15_2 : wc.cell? ⟨ab, 2, none⟩ = some (.int .i64 ai) := (blk_cell aa.out 2).trans rfl
   have hcz15_3 : wc.cell? ⟨ab, 3, none⟩ = some (.slice an ae.length ao) := (blk_cell aa.out 3).trans rfl
   have hcz15_4 : wc.cell? ⟨ab, 4, none⟩ = some (.slice au ac.length ap) := (blk_cell aa.out 4).trans rfl
   have hcz15_5 : wc.cell? ⟨ab, 5, none⟩ = some (.int .i64 ag) := (blk_cell aa.out 5).trans rfl
   have hcz15_6 : wc.cell? ⟨ab, 6, none⟩ = some (.slice aq af.length ar) := (blk_cell aa.out 6).trans rfl
   have hfz15_0 := blk_frozen aa.out 0
   have hfz15_1 := blk_frozen aa.out 1
   have hfz15_2 := blk_frozen aa.out 2
   have hfz15_3 := blk_frozen aa.out 3
   have hfz15_4 := blk_frozen aa.out 4
   have hfz15_5 := blk_frozen aa.out 5
   have hfz15_6 := blk_frozen aa.out 6
   go_wp2
   go_loopg [4, 30] kj2 (fun kq v4 v30 w' => ∃ (x4_2 : List Int) (x30_2 : Int), v30 = .int .i64 x30_2 ∧ Aside0 (wire_attributes.l0 kq t211 x4_2 ae (ae.length : Int) x30_2 aj ah ai ae ac ag af = some r) ∧ Aside0 (kq ≤ kj2) ∧ Aside0 (Kd.R (Kd.int .u8) 5 w' w.heap.size (fun k_ => some k_ ≠ (v4 : Value).ownBlock) v212 t211) ∧ Aside0 (Kd.R (Kd.int .u8) 5 w' w.heap.size (fun k_ => some k_ ≠ (v212 : Value).ownBlock) v4 x4_2) ∧ Aside0 (w'.heap[ab]? = some (.cells #[.int .i64 aj, .int .i64 ah, .int .i64 ai, (.slice an ae.length ao), (.slice au ac.length ap), .int .i64 ag, (.slice aq af.length ar)] 41 (0, 0))) ∧ Aside0 (Below w.heap.size w w'))
   case atStart => exact ⟨(x4_2), (0), (by first | rfl | (simp; done) | (simp [*]; done)), H', ⟨Nat.le_refl _⟩, ⟨by (with_reducible repeat (first | apply Kd.R_alloc | apply Kd.R_drewN | apply Kd.R_drew)); exact HO_3.out⟩, ⟨by (with_reducible repeat (first | apply Kd.R_alloc | apply Kd.R_drewN | apply Kd.R_drew)); exact HO_4.out⟩, ⟨by (with_reducible repeat (first | refine blk_drewN ?_ _ | refine blk_drew ?_ | refine blk_alloc ?_ _)); exact aa.out⟩, ⟨by repeat (first | (with_reducible first | exact HB.out | apply below_alloc | apply pw_below_drewN | apply below_drew1 | refine below_set ?_ ad.out) | exact HB.out)⟩⟩
   case round =>
    clear H'
    try clear c1
    try clear p2
    try clear c3
    try clear c6
    try clear az
    try clear c11b0
    try clear c11b1
    try clear hcz10_0
    try clear hcz10_1
    try clear hcz10_2
    try clear hcz10_3
    try clear hcz10_4
    try clear hcz10_5
    try clear hcz10_6
    try clear hcz12_0
    try clear hcz12_1
    try clear hcz12_2
    try clear hcz12_3
    try clear hcz12_4
    try clear hcz12_5
    try clear hcz12_6
    try clear hcz15_0
    try clear hcz15_1
    try clear hcz15_2
    try clear hcz15_3
    try clear hcz15_4
    try clear hcz15_5
    try clear hcz15_6
    try clear hcz5_0
    try clear hcz5_1
    try clear hcz5_2
    try clear hcz5_3
    try clear hcz5_4
    try clear hcz5_5
    try clear hcz5_6
    try clear hfz10_0
    try clear hfz10_1
    try clear hfz10_2
    try clear hfz10_3
    try clear hfz10_4
    try clear hfz10_5
    try clear hfz10_6
    try clear hfz12_0
    try clear hfz12_1
    try clear hfz12_2
    try clear hfz12_3
    try clear hfz12_4
    try clear hfz12_5
    try clear hfz12_6
    try clear hfz15_0
    try clear hfz15_1
    try clear hfz15_2
    try clear hfz15_3
    try clear hfz15_4
    try clear hfz15_5
    try clear hfz15_6
    try clear hfz5_0
    try clear hfz5_1
    try clear hfz5_2
    try clear hfz5_3
    try clear hfz5_4
    try clear hfz5_5
    try clear hfz5_6
    try clear p2
    obtain ⟨x4_2, x30_2, rfl, HA, HK2, HO_3, HO_4, aa, HB⟩ := hrel
    cases gk with
    | zero => exact absurd HA.out (by simp [wire_attributes.l0])
    | succ k2 =>
     have H := HA.out
     clear HA
     simp only [wire_attributes.l0] at H
     by_cases a7 : x30_2 < (ae.length : Int)
     ·rw [if_pos a7] at H
      have c16b0 : decide (x30_2 < (ae.length : Int)) = true := decide_eq_true a7
      clear a7
      by_cases a9 : 0 ≤ x30_2
      ·rw [if_pos a9] at H
       have c17b0 : decide (0 ≤ x30_2) = true := decide_eq_true a9
       clear a9
       by_cases ba : x30_2 < (ae.length : Int)
       ·rw [if_pos ba] at H
        have c18b0 : decide (x30_2 < (ae.length : Int)) = true := decide_eq_true ba
        clear ba
        replace H := Option.bind_eq_some_iff.mp H
        obtain ⟨t218, A190, H⟩ := H
        (try dsimp only at H)
        have A19 := Aside0.mk A190
        clear A190
        have H' := Aside0.mk H
        clear H
        have p217 : 0 ≤ (x30_2 : Int) := of_decide_eq_true (by first | (with_reducible assumption) | assumption)
        have q217 : x30_2 < (ae.length : Int) := of_decide_eq_true (by first | (with_reducible assumption) | assumption)
        obtain ⟨ad217, e217, hx217_0⟩ := Kd.at_int HR0_3.out x30_2 p217 q217
        (try (injection e217 with e217; replace e217 := e217.symm; subst e217; have e217 : True := trivial))
        cases e217
        replace hx217_0 := (HB.out.cell (World.block_lt_of_cell? w _ hx217_0)).trans hx217_0
        replace p217 := eq_true p217
        replace q217 := eq_true q217
        obtain ⟨Ao20, co20, eo20⟩ := Kd.R_slice HO_4.out
        subst eo20
        go_wp2_with (first | ((with_reducible refine gate_callee (f := 28) rfl ?_); refine goesL_ (some 36) rfl rfl Try.func28 (by kernel_rfl) rfl #[.slice Ao20 x4_2.length co20, .int .i64 (rd ae x30_2), .int .i64 2] rfl (by (try simp only [List.map_toArray, List.map_cons, List.map_nil]); first | done | rfl) ?_; (with_reducible refine (wire_number.calls k2 (fun k_ => some k_ = (.slice Ao20 x4_2.length co20 : Value).ownBlock) (.slice Ao20 x4_2.length co20) x4_2 (rd ae x30_2) 2 t218 w _ ?side1 ?side2 A19.out).mono ?_); (case side1 => repeat (first | (with_reducible first | exact HB.out | apply below_alloc | apply pw_below_drewN | apply below_drew1 | refine below_set ?_ ad.out) | exact HB.out)); (case side2 => exact Kd.R_tight rfl HO_4.out); rintro e w21 ⟨v219, rfl, ho0, hb, hkp⟩; refine ⟨_, rfl, ?_⟩; have n0_ := Aside0.mk (Kd.R_mono (ok' := fun k_ => some k_ ≠ (v219 : Value).ownBlock) (Kd.R_keptB (HO_3.out) hkp (fun k_ hk_ hs_ => (hk_) hs_)) (fun k_ hk_ => fun e_ => Or.elim (ho0.1 k_ e_.symm) (fun hs_ => hk_.2.1 hs_) (fun hn_ => Nat.not_le.2 hk_.2.2 hn_))); have n1_ := Aside0.mk (blk_kept (by (with_reducible repeat (first | refine blk_drewN ?_ _ | refine blk_drew ?_ | refine blk_alloc ?_ _)); exact aa.out) hkp (fun hs_ => (fun e_ => (Kd.R_ne HO_4.out aa.out (by decide)) e_) hs_)); have n2_ := Aside0.mk (Kd.R_mono (ok' := fun k_ => some k_ ≠ (v212 : Value).ownBlock) ho0 (fun k_ hk_ => Or.elim hk_ (fun hs_ => fun e_ => (((HO_3.out).1 k_ e_.symm)) hs_) (fun hn_ => (Kd.fresh' (Kd.R_lt (by (with_reducible repeat (first | apply Kd.R_alloc | apply Kd.R_drewN | apply Kd.R_drew)); exact HO_3.out)) k_ hn_)))); have n3_ := Aside0.mk (hb); clear HO_3; clear aa; clear HB; clear HO_4; have HO_3 := n0_; have aa := n1_; have HO220 := n2_; have HB := n3_; clear n0_ n1_ n2_ n3_; (try clear hb); (try clear hkp); (try clear ho0)))
        go_roundg k2
        case measure => have := HJ2.out; have := HK2.out; omega
        case rel => exact ⟨(t218), (wrap64 (x30_2 + 1)), (by first | rfl | (simp; done) | (simp [*]; done)), H', ⟨by have := HJ2.out; have := HK2.out; omega⟩, ⟨by (with_reducible repeat (first | apply Kd.R_alloc | apply Kd.R_drewN | apply Kd.R_drew)); exact HO_3.out⟩, ⟨by (with_reducible repeat (first | apply Kd.R_alloc | apply Kd.R_drewN | apply Kd.R_drew)); exact HO220.out⟩, ⟨by (with_reducible repeat (first | refine blk_drewN ?_ _ | refine blk_drew ?_ | refine blk_alloc ?_ _)); exact aa.out⟩, ⟨by repeat (first | (with_reducible first | exact HB.out | apply below_alloc | apply pw_below_drewN | apply below_drew1 | refine below_set ?_ ad.out) | exact HB.out)⟩⟩
       ·rw [if_neg ba] at H
        exact absurd H (by simp)
      ·rw [if_neg a9] at H
       exact absurd H (by simp)
     ·rw [if_neg a7] at H
      have c16b0 : decide (x30_2 < (ae.length : Int)) = false := decide_eq_false a7
      clear a7
      replace H := Option.bind_eq_some_iff.mp H
      obtain ⟨t221, A220, H⟩ := H
      (try dsimp only at H)
      have A22 := Aside0.mk A220
      clear A220
      have HC23 := Aside0.mk H
      clear H
      obtain ⟨Ao24, co24, eo24⟩ := Kd.R_slice HO_3.out
      subst eo24
      obtain ⟨Ao25, co25, eo25⟩ := Kd.R_slice HO_4.out
      subst eo25
      go_upto_if 43 with (first | ((with_reducible refine gate_callee (f := 63) rfl ?_); refine goesL_ (some 40) rfl rfl Try.func63 (by kernel_rfl) rfl #[.slice Ao24 t211.length co24, .int .u8 64, .int .u8 2, .slice Ao25 x4_2.length co25] rfl (by (try simp only [List.map_toArray, List.map_cons, List.map_nil]); first | done | rfl) ?_; (with_reducible refine (wire_one.calls (fun k_ => some k_ = (.slice Ao24 t211.length co24 : Value).ownBlock) (.slice Ao24 t211.length co24) t211 64 2 _ _ x4_2 t221 w _ ?side1 ?side2 ?side3 ?side4 A22.out).mono ?_); (case side1 => repeat (first | (with_reducible first | exact HB.out | apply below_alloc | apply pw_below_drewN | apply below_drew1 | refine below_set ?_ ad.out) | exact HB.out)); (case side2 | side4 => first | exact Kd.R_tight rfl HO_3.out | exact (Kd.R_reads' HO_4.out).2.1); (case side3 => exact Kd.C_kept_own (HO_4.out) (fun k_ hk_ hs_ => (hk_) hs_)); rintro e w26 ⟨v222, rfl, ho0, hb, hkp⟩; refine ⟨_, rfl, ?_⟩; have n0_ := Aside0.mk (Kd.R_mono (ok' := fun k_ => some k_ ≠ (v222 : Value).ownBlock) (Kd.R_keptB (HO_4.out) hkp (fun k_ hk_ hs_ => (hk_) hs_)) (fun k_ hk_ => fun e_ => Or.elim (ho0.1 k_ e_.symm) (fun hs_ => hk_.2.1 hs_) (fun hn_ => Nat.not_le.2 hk_.2.2 hn_))); have n1_ := Aside0.mk (blk_kept (by (with_reducible repeat (first | refine blk_drewN ?_ _ | refine blk_drew ?_ | refine blk_alloc ?_ _)); exact aa.out) hkp (fun hs_ => (fun e_ => (Kd.R_ne HO_3.out aa.out (by decide)) e_) hs_)); have n2_ := Aside0.mk (Kd.R_mono (ok' := fun k_ => some k_ ≠ (.slice Ao25 x4_2.length co25 : Value).ownBlock) ho0 (fun k_ hk_ => Or.elim hk_ (fun hs_ => fun e_ => (((HO_4.out).1 k_ e_.symm)) hs_) (fun hn_ => (Kd.fresh' (Kd.R_lt (by (with_reducible repeat (first | apply Kd.R_alloc | apply Kd.R_drewN | apply Kd.R_drew)); exact HO_4.out)) k_ hn_)))); have n3_ := Aside0.mk (hb); clear HO_4; clear aa; clear HB; clear HO_3; have HO_4 := n0_; have aa := n1_; have aw := n2_; have HB := n3_; clear n0_ n1_ n2_ n3_; (try clear hb); (try clear hkp); (try clear ho0); have hcz27_0 : w26.cell? ⟨ab, 0, none⟩ = some (.int .i64 aj) := (blk_cell aa.out 0).trans rfl; have hcz27_1 : w26.cell? ⟨ab, 1, none⟩ = some (.int .i64 ah) := (blk_cell aa.out 1).trans rfl; have hcz27_2 : w26.cell? ⟨ab, 2, none⟩ = some (.int .i64 ai) := (blk_cell aa.out 2).trans rfl; have hcz27_3 : w26.cell? ⟨ab, 3, none⟩ = some (.slice an ae.length ao) := (blk_cell aa.out 3).trans rfl; have hcz27_4 : w26.cell? ⟨ab, 4, none⟩ = some (.slice au ac.length ap) := (blk_cell aa.out 4).trans rfl; have hcz27_5 : w26.cell? ⟨ab, 5, none⟩ = some (.int .i64 ag) := (blk_cell aa.out 5).trans rfl; have hcz27_6 : w26.cell? ⟨ab, 6, none⟩ = some (.slice aq af.length ar) := (blk_cell aa.out 6).trans rfl; have hfz27_0 := blk_frozen aa.out 0; have hfz27_1 := blk_frozen aa.out 1; have hfz27_2 := blk_frozen aa.out 2; have hfz27_3 := blk_frozen aa.out 3; have hfz27_4 := blk_frozen aa.out 4; have hfz27_5 := blk_frozen aa.out 5; have hfz27_6 := blk_frozen aa.out 6))
      (try simp only [Act.put, List.setIfInBounds_toArray, List.set_cons_zero, List.set_cons_succ])
      go_cut [3] (fun v3 wc => ∃ (kq : Nat) (x3_22 : List Int), Aside0 (wire_attributes.j2 kq x3_22 aj ah ai ae ac ag af = some r) ∧ Aside0 (kq ≤ k2) ∧ Aside0 (Kd.R (Kd.int .u8) 5 wc w.heap.size (fun _ => True) v3 x3_22) ∧ Aside0 (wc.heap[ab]? = some (.cells #[.int .i64 aj, .int .i64 ah, .int .i64 ai, (.slice an ae.length ao), (.slice au ac.length ap), .int .i64 ag, (.slice aq af.length ar)] 41 (0, 0))) ∧ Aside0 (Below w.heap.size w wc))
      case first =>
       have H := HC23.out
       clear HC23
       by_cases a8 : ah > 0
       ·rw [if_pos a8] at H
        have c28b0 : decide (0 < ah) = true := decide_eq_true a8
        clear a8
        (first | rw [c28b0] | (simp only [i64_w]; rw [c28b0]) | skip)
        replace H := Option.bind_eq_some_iff.mp H
        obtain ⟨t224, A290, H⟩ := H
        (try dsimp only at H)
        have A29 := Aside0.mk A290
        clear A290
        replace H := Option.bind_eq_some_iff.mp H
        obtain ⟨t227, A300, H⟩ := H
        replace H : (wire_attributes.j2 k2 t227 aj ah ai ae ac ag af) = some r := H
        have A30 := Aside0.mk A300
        clear A300
        have H' := Aside0.mk H
        clear H
        have hcz31_0 : w26.cell? ⟨ab, 0, none⟩ = some (.int .i64 aj) := (blk_cell aa.out 0).trans rfl
        have hcz31_1 : w26.cell? ⟨ab, 1, none⟩ = some (.int .i64 ah) := (blk_cell aa.out 1).trans rfl
        have hcz31_2 : w26.cell? ⟨ab, 2, none⟩ = some (.int .i64 ai) := (blk_cell aa.out 2).trans rfl
        have hcz31_3 : w26.cell? ⟨ab, 3, none⟩ = some (.slice an ae.length ao) := (blk_cell aa.out 3).trans rfl
        have hcz31_4 : w26.cell? ⟨ab, 4, none⟩ = some (.slice au ac.length ap) := (blk_cell aa.out 4).trans rfl
        have hcz31_5 : w26.cell? ⟨ab, 5, none⟩ = some (.int .i64 ag) := (blk_cell aa.out 5).trans rfl
        have hcz31_6 : w26.cell? ⟨ab, 6, none⟩ = some (.slice aq af.length ar) := (blk_cell aa.out 6).trans rfl
        have hfz31_0 := blk_frozen aa.out 0
        have hfz31_1 := blk_frozen aa.out 1
        have hfz31_2 := blk_frozen aa.out 2
        have hfz31_3 := blk_frozen aa.out 3
        have hfz31_4 := blk_frozen aa.out 4
        have hfz31_5 := blk_frozen aa.out 5
        have hfz31_6 := blk_frozen aa.out 6
        go_wp2_with (first | ((with_reducible refine gate_callee (f := 28) rfl ?_); refine goesL_ (some 47) rfl rfl Try.func28 (by kernel_rfl) rfl #[.slice none 0 0, .int .i64 ah, .int .i64 4] rfl (by (try simp only [List.map_toArray, List.map_cons, List.map_nil]); first | done | rfl) ?_; (refine (wire_number.calls k2 (fun k_ => some k_ = (.slice none 0 0 : Value).ownBlock) (.slice none 0 0) ([] : List Int) ah 4 t224 w _ ?side1 ?side2 A29.out).mono ?_); (case side1 => repeat (first | (with_reducible first | exact HB.out | apply below_alloc | apply pw_below_drewN | apply below_drew1 | refine below_set ?_ ad.out) | exact HB.out)); (case side2 => exact Kd.R_nil _ _ _ _ _); rintro e w32 ⟨v225, rfl, ho0, hb, hkp⟩; refine ⟨_, rfl, ?_⟩; have n0_ := Aside0.mk (Kd.R_mono (ok' := fun k_ => some k_ ≠ (v222 : Value).ownBlock ∧ some k_ ≠ (v225 : Value).ownBlock) (Kd.R_keptB (HO_4.out) hkp (fun k_ hk_ hs_ => (fun e_ => by simp [Value.ownBlock] at e_) hs_)) (fun k_ hk_ => ⟨hk_.1, fun e_ => Or.elim (ho0.1 k_ e_.symm) (fun hs_ => hk_.2.1 hs_) (fun hn_ => Nat.not_le.2 hk_.2.2 hn_)⟩)); have n1_ := Aside0.mk (blk_kept (by (with_reducible repeat (first | refine blk_drewN ?_ _ | refine blk_drew ?_ | refine blk_alloc ?_ _)); exact aa.out) hkp (fun hs_ => (fun e_ => by simp [Value.ownBlock] at e_) hs_)); have n2_ := Aside0.mk (Kd.R_mono (ok' := fun k_ => some k_ ≠ (.slice Ao25 x4_2.length co25 : Value).ownBlock ∧ some k_ ≠ (v225 : Value).ownBlock) (Kd.R_keptB (aw.out) hkp (fun k_ hk_ hs_ => (fun e_ => by simp [Value.ownBlock] at e_) hs_)) (fun k_ hk_ => ⟨hk_.1, fun e_ => Or.elim (ho0.1 k_ e_.symm) (fun hs_ => hk_.2.1 hs_) (fun hn_ => Nat.not_le.2 hk_.2.2 hn_)⟩)); have n3_ := Aside0.mk (Kd.R_mono (ok' := fun k_ => some k_ ≠ (.slice Ao25 x4_2.length co25 : Value).ownBlock ∧ some k_ ≠ (v222 : Value).ownBlock) ho0 (fun k_ hk_ => ⟨Or.elim hk_ (fun hs_ => absurd hs_ (by simp [Value.ownBlock])) (fun hn_ => (Kd.fresh' (Kd.R_lt (by (with_reducible repeat (first | apply Kd.R_alloc | apply Kd.R_drewN | apply Kd.R_drew)); exact HO_4.out)) k_ hn_)), Or.elim hk_ (fun hs_ => absurd hs_ (by simp [Value.ownBlock])) (fun hn_ => (Kd.fresh' (Kd.R_lt (by (with_reducible repeat (first | apply Kd.R_alloc | apply Kd.R_drewN | apply Kd.R_drew)); exact aw.out)) k_ hn_))⟩)); have n4_ := Aside0.mk (hb); clear HO_4; clear aa; clear aw; clear HB; have HO_4 := n0_; have aa := n1_; have aw := n2_; have ax := n3_; have HB := n4_; clear n0_ n1_ n2_ n3_ n4_; (try clear hb); (try clear hkp); (try clear ho0); obtain ⟨Ao33, co33, eo33⟩ := Kd.R_slice aw.out; subst eo33; obtain ⟨Ao34, co34, eo34⟩ := Kd.R_slice ax.out; subst eo34) | ((with_reducible refine gate_callee (f := 63) rfl ?_); refine goesL_ (some 48) rfl rfl Try.func63 (by kernel_rfl) rfl #[.slice Ao33 t221.length co33, .int .u8 128, .int .u8 4, .slice Ao34 t224.length co34] rfl (by (try simp only [List.map_toArray, List.map_cons, List.map_nil]); first | done | rfl) ?_; (with_reducible refine (wire_one.calls (fun k_ => some k_ = (.slice Ao33 t221.length co33 : Value).ownBlock) (.slice Ao33 t221.length co33) t221 128 4 _ _ t224 t227 w _ ?side1 ?side2 ?side3 ?side4 A30.out).mono ?_); (case side1 => repeat (first | (with_reducible first | exact HB.out | apply below_alloc | apply pw_below_drewN | apply below_drew1 | refine below_set ?_ ad.out) | exact HB.out)); (case side2 | side4 => first | exact Kd.R_tight rfl aw.out | exact (Kd.R_reads' ax.out).2.1); (case side3 => exact Kd.C_kept_own (ax.out) (fun k_ hk_ hs_ => (hk_.2) hs_)); rintro e w35 ⟨v228, rfl, ho0, hb, hkp⟩; refine ⟨_, rfl, ?_⟩; have n0_ := Aside0.mk (Kd.R_mono (ok' := fun k_ => some k_ ≠ (.slice Ao34 t224.length co34 : Value).ownBlock ∧ some k_ ≠ (v228 : Value).ownBlock) (Kd.R_keptB (HO_4.out) hkp (fun k_ hk_ hs_ => (hk_.1) hs_)) (fun k_ hk_ => ⟨hk_.1.2, fun e_ => Or.elim (ho0.1 k_ e_.symm) (fun hs_ => hk_.2.1 hs_) (fun hn_ => Nat.not_le.2 hk_.2.2 hn_)⟩)); have n1_ := Aside0.mk (blk_kept (by (with_reducible repeat (first | refine blk_drewN ?_ _ | refine blk_drew ?_ | refine blk_alloc ?_ _)); exact aa.out) hkp (fun hs_ => (fun e_ => (Kd.R_ne aw.out aa.out (by decide)) e_) hs_)); have n2_ := Aside0.mk (Kd.R_mono (ok' := fun k_ => some k_ ≠ (.slice Ao25 x4_2.length co25 : Value).ownBlock ∧ some k_ ≠ (v228 : Value).ownBlock) (Kd.R_keptB (ax.out) hkp (fun k_ hk_ hs_ => (hk_.2) hs_)) (fun k_ hk_ => ⟨hk_.1.1, fun e_ => Or.elim (ho0.1 k_ e_.symm) (fun hs_ => hk_.2.1 hs_) (fun hn_ => Nat.not_le.2 hk_.2.2 hn_)⟩)); have n3_ := Aside0.mk (Kd.R_mono (ok' := fun k_ => some k_ ≠ (.slice Ao25 x4_2.length co25 : Value).ownBlock ∧ some k_ ≠ (.slice Ao34 t224.length co34 : Value).ownBlock) ho0 (fun k_ hk_ => ⟨Or.elim hk_ (fun hs_ => fun e_ => (((HO_4.out).1 k_ e_.symm).1) hs_) (fun hn_ => (Kd.fresh' (Kd.R_lt (by (with_reducible repeat (first | apply Kd.R_alloc | apply Kd.R_drewN | apply Kd.R_drew)); exact HO_4.out)) k_ hn_)), Or.elim hk_ (fun hs_ => fun e_ => (((ax.out).1 k_ e_.symm).2) hs_) (fun hn_ => (Kd.fresh' (Kd.R_lt (by (with_reducible repeat (first | apply Kd.R_alloc | apply Kd.R_drewN | apply Kd.R_drew)); exact ax.out)) k_ hn_))⟩)); have n4_ := Aside0.mk (hb); clear HO_4; clear aa; clear ax; clear HB; clear aw; have HO_4 := n0_; have aa := n1_; have ax := n2_; have HO229 := n3_; have HB := n4_; clear n0_ n1_ n2_ n3_ n4_; (try clear hb); (try clear hkp); (try clear ho0)))
        go_meet
        case rel => exact ⟨_, (t227), H', ⟨by have := HJ2.out; have := HK2.out; first | omega | exact Nat.le_refl _⟩, ⟨by (with_reducible repeat (first | apply Kd.R_alloc | apply Kd.R_drewN | apply Kd.R_drew)); exact Kd.R_mono HO229.out (fun _ hk => trivial)⟩, ⟨by (with_reducible repeat (first | refine blk_drewN ?_ _ | refine blk_drew ?_ | refine blk_alloc ?_ _)); exact aa.out⟩, ⟨by repeat (first | (with_reducible first | exact HB.out | apply below_alloc | apply pw_below_drewN | apply below_drew1 | refine below_set ?_ ad.out) | exact HB.out)⟩⟩
       ·rw [if_neg a8] at H
        have c28b0 : decide (0 < ah) = false := decide_eq_false a8
        clear a8
        (first | rw [c28b0] | (simp only [i64_w]; rw [c28b0]) | skip)
        have H' := Aside0.mk H
        clear H
        go_wp2
        go_meet
        case rel => exact ⟨_, (t221), H', ⟨by have := HJ2.out; have := HK2.out; first | omega | exact Nat.le_refl _⟩, ⟨by (with_reducible repeat (first | apply Kd.R_alloc | apply Kd.R_drewN | apply Kd.R_drew)); exact Kd.R_mono aw.out (fun _ hk => trivial)⟩, ⟨by (with_reducible repeat (first | refine blk_drewN ?_ _ | refine blk_drew ?_ | refine blk_alloc ?_ _)); exact aa.out⟩, ⟨by repeat (first | (with_reducible first | exact HB.out | apply below_alloc | apply pw_below_drewN | apply below_drew1 | refine below_set ?_ ad.out) | exact HB.out)⟩⟩
      case rest =>
       clear HC23
       try clear c1
       try clear c2
       try clear p2
       try clear q2
       try clear hx2
       try clear c3
       try clear c6
       try clear p6
       try clear az
       try clear c11b0
       try clear c11b1
       try clear a7
       try clear c16b0
       try clear a9
       try clear c17b0
       try clear ba
       try clear c18b0
       try clear p21
       try clear q21
       try clear hx21
       try clear a8
       try clear c28b0
       try clear hcz10_0
       try clear hcz10_1
       try clear hcz10_2
       try clear hcz10_3
       try clear hcz10_4
       try clear hcz10_5
       try clear hcz10_6
       try clear hcz12_0
       try clear hcz12_1
       try clear hcz12_2
       try clear hcz12_3
       try clear hcz12_4
       try clear hcz12_5
       try clear hcz12_6
       try clear hcz15_0
       try clear hcz15_1
       try clear hcz15_2
       try clear hcz15_3
       try clear hcz15_4
       try clear hcz15_5
       try clear hcz15_6
       try clear hcz27_0
       try clear hcz27_1
       try clear hcz27_2
       try clear hcz27_3
       try clear hcz27_4
       try clear hcz27_5
       try clear hcz27_6
       try clear hcz31_0
       try clear hcz31_1
       try clear hcz31_2
       try clear hcz31_3
       try clear hcz31_4
       try clear hcz31_5
       try clear hcz31_6
       try clear hcz5_0
       try clear hcz5_1
       try clear hcz5_2
       try clear hcz5_3
       try clear hcz5_4
       try clear hcz5_5
       try clear hcz5_6
       try clear hfz10_0
       try clear hfz10_1
       try clear hfz10_2
       try clear hfz10_3
       try clear hfz10_4
       try clear hfz10_5
       try clear hfz10_6
       try clear hfz12_0
       try clear hfz12_1
       try clear hfz12_2
       try clear hfz12_3
       try clear hfz12_4
       try clear hfz12_5
       try clear hfz12_6
       try clear hfz15_0
       try clear hfz15_1
       try clear hfz15_2
       try clear hfz15_3
       try clear hfz15_4
       try clear hfz15_5
       try clear hfz15_6
       try clear hfz27_0
       try clear hfz27_1
       try clear hfz27_2
       try clear hfz27_3
       try clear hfz27_4
       try clear hfz27_5
       try clear hfz27_6
       try clear hfz31_0
       try clear hfz31_1
       try clear hfz31_2
       try clear hfz31_3
       try clear hfz31_4
       try clear hfz31_5
       try clear hfz31_6
       try clear hfz5_0
       try clear hfz5_1
       try clear hfz5_2
       try clear hfz5_3
       try clear hfz5_4
       try clear hfz5_5
       try clear hfz5_6
       try clear hx217_0
       try clear p2
       try clear p217
       try clear q217
       obtain ⟨kq, x3_22, HA, HJ22, HO_3, aa, HB⟩ := hcut
       cases kq with
       | zero => exact absurd HA.out (by simp [wire_attributes.j2])
       | succ kj22 =>
        have H := HA.out
        clear HA
        simp only [wire_attributes.j2] at H
        replace H := Option.bind_eq_some_iff.mp H
        obtain ⟨t230, A360, H⟩ := H
        (try dsimp only at H)
        have A36 := Aside0.mk A360
        clear A360
        replace H := Option.bind_eq_some_iff.mp H
        obtain ⟨t233, A370, H⟩ := H
        (try dsimp only at H)
        have A37 := Aside0.mk A370
        clear A370
        have H' := Aside0.mk H
        clear H
        have hcz38_0 : wc.cell? ⟨ab, 0, none⟩ = some (.int .i64 aj) := (blk_cell aa.out 0).trans rfl
        have hcz38_1 : wc.cell? ⟨ab, 1, none⟩ = some (.int .i64 ah) := (blk_cell aa.out 1).trans rfl
        have hcz38_2 : wc.cell? ⟨ab, 2, none⟩ = some (.int .i64 ai) := (blk_cell aa.out 2).trans rfl
        have hcz38_3 : wc.cell? ⟨ab, 3, none⟩ = some (.slice an ae.length ao) := (blk_cell aa.out 3).trans rfl
        have hcz38_4 : wc.cell? ⟨ab, 4, none⟩ = some (.slice au ac.length ap) := (blk_cell aa.out 4).trans rfl
        have hcz38_5 : wc.cell? ⟨ab, 5, none⟩ = some (.int .i64 ag) := (blk_cell aa.out 5).trans rfl
        have hcz38_6 : wc.cell? ⟨ab, 6, none⟩ = some (.slice aq af.length ar) := (blk_cell aa.out 6).trans rfl
        have hfz38_0 := blk_frozen aa.out 0
        have hfz38_1 := blk_frozen aa.out 1
        have hfz38_2 := blk_frozen aa.out 2
        have hfz38_3 := blk_frozen aa.out 3
        have hfz38_4 := blk_frozen aa.out 4
        have hfz38_5 := blk_frozen aa.out 5
        have hfz38_6 := blk_frozen aa.out 6
        go_wp2_with (first | ((with_reducible refine gate_callee (f := 28) rfl ?_); refine goesL_ (some 52) rfl rfl Try.func28 (by kernel_rfl) rfl #[.slice none 0 0, .int .i64 aj, .int .i64 4] rfl (by (try simp only [List.map_toArray, List.map_cons, List.map_nil]); first | done | rfl) ?_; (refine (wire_number.calls kj22 (fun k_ => some k_ = (.slice none 0 0 : Value).ownBlock) (.slice none 0 0) ([] : List Int) aj 4 t230 w _ ?side1 ?side2 A36.out).mono ?_); (case side1 => repeat (first | (with_reducible first | exact HB.out | apply below_alloc | apply pw_below_drewN | apply below_drew1 | refine below_set ?_ ad.out) | exact HB.out)); (case side2 => exact Kd.R_nil _ _ _ _ _); rintro e w39 ⟨v231, rfl, ho0, hb, hkp⟩; refine ⟨_, rfl, ?_⟩; have n0_ := Aside0.mk (Kd.R_mono (ok' := fun k_ => some k_ ≠ (v231 : Value).ownBlock) (Kd.R_keptB (HO_3.out) hkp (fun k_ hk_ hs_ => (fun e_ => by simp [Value.ownBlock] at e_) hs_)) (fun k_ hk_ => fun e_ => Or.elim (ho0.1 k_ e_.symm) (fun hs_ => hk_.2.1 hs_) (fun hn_ => Nat.not_le.2 hk_.2.2 hn_))); have n1_ := Aside0.mk (blk_kept (by (with_reducible repeat (first | refine blk_drewN ?_ _ | refine blk_drew ?_ | refine blk_alloc ?_ _)); exact aa.out) hkp (fun hs_ => (fun e_ => by simp [Value.ownBlock] at e_) hs_)); have n2_ := Aside0.mk (Kd.R_mono (ok' := fun k_ => some k_ ≠ (u3 : Value).ownBlock) ho0 (fun k_ hk_ => Or.elim hk_ (fun hs_ => absurd hs_ (by simp [Value.ownBlock])) (fun hn_ => (Kd.fresh' (Kd.R_lt (by (with_reducible repeat (first | apply Kd.R_alloc | apply Kd.R_drewN | apply Kd.R_drew)); exact HO_3.out)) k_ hn_)))); have n3_ := Aside0.mk (hb); clear HO_3; clear aa; clear HB; have HO_3 := n0_; have aa := n1_; have ay := n2_; have HB := n3_; clear n0_ n1_ n2_ n3_; (try clear hb); (try clear hkp); (try clear ho0); obtain ⟨Ao40, co40, eo40⟩ := Kd.R_slice HO_3.out; subst eo40; obtain ⟨Ao41, co41, eo41⟩ := Kd.R_slice ay.out; subst eo41) | ((with_reducible refine gate_callee (f := 63) rfl ?_); refine goesL_ (some 53) rfl rfl Try.func63 (by kernel_rfl) rfl #[.slice Ao40 x3_22.length co40, .int .u8 64, .int .u8 5, .slice Ao41 t230.length co41] rfl (by (try simp only [List.map_toArray, List.map_cons, List.map_nil]); first | done | rfl) ?_; (with_reducible refine (wire_one.calls (fun k_ => some k_ = (.slice Ao40 x3_22.length co40 : Value).ownBlock) (.slice Ao40 x3_22.length co40) x3_22 64 5 _ _ t230 t233 w _ ?side1 ?side2 ?side3 ?side4 A37.out).mono ?_); (case side1 => repeat (first | (with_reducible first | exact HB.out | apply below_alloc | apply pw_below_drewN | apply below_drew1 | refine below_set ?_ ad.out) | exact HB.out)); (case side2 | side4 => first | exact Kd.R_tight rfl HO_3.out | exact (Kd.R_reads' ay.out).2.1); (case side3 => exact Kd.C_kept_own (ay.out) (fun k_ hk_ hs_ => (hk_) hs_)); rintro e w42 ⟨v234, rfl, ho0, hb, hkp⟩; refine ⟨_, rfl, ?_⟩; have n0_ := Aside0.mk (blk_kept (by (with_reducible repeat (first | refine blk_drewN ?_ _ | refine blk_drew ?_ | refine blk_alloc ?_ _)); exact aa.out) hkp (fun hs_ => (fun e_ => (Kd.R_ne HO_3.out aa.out (by decide)) e_) hs_)); have n1_ := Aside0.mk (Kd.R_mono (ok' := fun k_ => some k_ ≠ (v234 : Value).ownBlock) (Kd.R_keptB (ay.out) hkp (fun k_ hk_ hs_ => (hk_) hs_)) (fun k_ hk_ => fun e_ => Or.elim (ho0.1 k_ e_.symm) (fun hs_ => hk_.2.1 hs_) (fun hn_ => Nat.not_le.2 hk_.2.2 hn_))); have n2_ := Aside0.mk (Kd.R_mono (ok' := fun k_ => some k_ ≠ (.slice Ao41 t230.length co41 : Value).ownBlock) ho0 (fun k_ hk_ => Or.elim hk_ (fun hs_ => fun e_ => (((ay.out).1 k_ e_.symm)) hs_) (fun hn_ => (Kd.fresh' (Kd.R_lt (by (with_reducible repeat (first | apply Kd.R_alloc | apply Kd.R_drewN | apply Kd.R_drew)); exact ay.out)) k_ hn_)))); have n3_ := Aside0.mk (hb); clear aa; clear ay; clear HB; clear HO_3; have aa := n0_; have ay := n1_; have HO235 := n2_; have HB := n3_; clear n0_ n1_ n2_ n3_; (try clear hb); (try clear hkp); (try clear ho0); have hcz43_0 : w42.cell? ⟨ab, 0, none⟩ = some (.int .i64 aj) := (blk_cell aa.out 0).trans rfl; have hcz43_1 : w42.cell? ⟨ab, 1, none⟩ = some (.int .i64 ah) := (blk_cell aa.out 1).trans rfl; have hcz43_2 : w42.cell? ⟨ab, 2, none⟩ = some (.int .i64 ai) := (blk_cell aa.out 2).trans rfl; have hcz43_3 : w42.cell? ⟨ab, 3, none⟩ = some (.slice an ae.length ao) := (blk_cell aa.out 3).trans rfl; have hcz43_4 : w42.cell? ⟨ab, 4, none⟩ = some (.slice au ac.length ap) := (blk_cell aa.out 4).trans rfl; have hcz43_5 : w42.cell? ⟨ab, 5, none⟩ = some (.int .i64 ag) := (blk_cell aa.out 5).trans rfl; have hcz43_6 : w42.cell? ⟨ab, 6, none⟩ = some (.slice aq af.length ar) := (blk_cell aa.out 6).trans rfl; have hfz43_0 := blk_frozen aa.out 0; have hfz43_1 := blk_frozen aa.out 1; have hfz43_2 := blk_frozen aa.out 2; have hfz43_3 := blk_frozen aa.out 3; have hfz43_4 := blk_frozen aa.out 4; have hfz43_5 := blk_frozen aa.out 5; have hfz43_6 := blk_frozen aa.out 6))
        go_loopg [7, 57] kj22 (fun kq v7 v57 w' => ∃ (x7_4 : List Int) (x57_4 : Int), v57 = .int .i64 x57_4 ∧ Aside0 (wire_attributes.l1 kq t233 x7_4 ac (ac.length : Int) x57_4 aj ah ai ae ac ag af = some r) ∧ Aside0 (kq ≤ kj22) ∧ Aside0 (Kd.R (Kd.int .u8) 5 w' w.heap.size (fun k_ => some k_ ≠ (v7 : Value).ownBlock) v234 t233) ∧ Aside0 (Kd.R (Kd.int .u8) 5 w' w.heap.size (fun k_ => some k_ ≠ (v234 : Value).ownBlock) v7 x7_4) ∧ Aside0 (w'.heap[ab]? = some (.cells #[.int .i64 aj, .int .i64 ah, .int .i64 ai, (.slice an ae.length ao), (.slice au ac.length ap), .int .i64 ag, (.slice aq af.length ar)] 41 (0, 0))) ∧ Aside0 (Below w.heap.size w w'))
        case atStart => exact ⟨(([] : List Int)), (0), (by first | rfl | (simp; done) | (simp [*]; done)), H', ⟨Nat.le_refl _⟩, ⟨by (with_reducible repeat (first | apply Kd.R_alloc | apply Kd.R_drewN | apply Kd.R_drew)); exact Kd.R_mono HO235.out (fun _ hk => (by simp [Value.ownBlock]))⟩, ⟨by first | exact Kd.R_nil _ _ _ _ _ | exact Kd.N_nil _ _ _ _ _ | exact Kd.V_nil _ _ _ _ _ | exact Kd.Q_nil _ _ _ _ _ | exact Kd.S_nil _ _ _ _ _⟩, ⟨by (with_reducible repeat (first | refine blk_drewN ?_ _ | refine blk_drew ?_ | refine blk_alloc ?_ _)); exact aa.out⟩, ⟨by repeat (first | (with_reducible first | exact HB.out | apply below_alloc | apply pw_below_drewN | apply below_drew1 | refine below_set ?_ ad.out) | exact HB.out)⟩⟩
        case round =>
         clear H'
         try clear c1
         try clear c2
         try clear p2
         try clear q2
         try clear hx2
         try clear c3
         try clear c6
         try clear p6
         try clear az
         try clear c11b0
         try clear c11b1
         try clear a7
         try clear c16b0
         try clear a9
         try clear c17b0
         try clear ba
         try clear c18b0
         try clear p21
         try clear q21
         try clear hx21
         try clear a8
         try clear c28b0
         try clear c36
         try clear hcz10_0
         try clear hcz10_1
         try clear hcz10_2
         try clear hcz10_3
         try clear hcz10_4
         try clear hcz10_5
         try clear hcz10_6
         try clear hcz12_0
         try clear hcz12_1
         try clear hcz12_2
         try clear hcz12_3
         try clear hcz12_4
         try clear hcz12_5
         try clear hcz12_6
         try clear hcz15_0
         try clear hcz15_1
         try clear hcz15_2
         try clear hcz15_3
         try clear hcz15_4
         try clear hcz15_5
         try clear hcz15_6
         try clear hcz27_0
         try clear hcz27_1
         try clear hcz27_2
         try clear hcz27_3
         try clear hcz27_4
         try clear hcz27_5
         try clear hcz27_6
         try clear hcz31_0
         try clear hcz31_1
         try clear hcz31_2
         try clear hcz31_3
         try clear hcz31_4
         try clear hcz31_5
         try clear hcz31_6
         try clear hcz38_0
         try clear hcz38_1
         try clear hcz38_2
         try clear hcz38_3
         try clear hcz38_4
         try clear hcz38_5
         try clear hcz38_6
         try clear hcz43_0
         try clear hcz43_1
         try clear hcz43_2
         try clear hcz43_3
         try clear hcz43_4
         try clear hcz43_5
         try clear hcz43_6
         try clear hcz5_0
         try clear hcz5_1
         try clear hcz5_2
         try clear hcz5_3
         try clear hcz5_4
         try clear hcz5_5
         try clear hcz5_6
         try clear hfz10_0
         try clear hfz10_1
         try clear hfz10_2
         try clear hfz10_3
         try clear hfz10_4
         try clear hfz10_5
         try clear hfz10_6
         try clear hfz12_0
         try clear hfz12_1
         try clear hfz12_2
         try clear hfz12_3
         try clear hfz12_4
         try clear hfz12_5
         try clear hfz12_6
         try clear hfz15_0
         try clear hfz15_1
         try clear hfz15_2
         try clear hfz15_3
         try clear hfz15_4
         try clear hfz15_5
         try clear hfz15_6
         try clear hfz27_0
         try clear hfz27_1
         try clear hfz27_2
         try clear hfz27_3
         try clear hfz27_4
         try clear hfz27_5
         try clear hfz27_6
         try clear hfz31_0
         try clear hfz31_1
         try clear hfz31_2
         try clear hfz31_3
         try clear hfz31_4
         try clear hfz31_5
         try clear hfz31_6
         try clear hfz38_0
         try clear hfz38_1
         try clear hfz38_2
         try clear hfz38_3
         try clear hfz38_4
         try clear hfz38_5
         try clear hfz38_6
         try clear hfz43_0
         try clear hfz43_1
         try clear hfz43_2
         try clear hfz43_3
         try clear hfz43_4
         try clear hfz43_5
         try clear hfz43_6
         try clear hfz5_0
         try clear hfz5_1
         try clear hfz5_2
         try clear hfz5_3
         try clear hfz5_4
         try clear hfz5_5
         try clear hfz5_6
         try clear hx217_0
         try clear p2
         try clear p21
         try clear p217
         try clear p6
         try clear q2
         try clear q21
         try clear q217
         obtain ⟨x7_4, x57_4, rfl, HA, HK4, HO_3, HO_7, aa, HB⟩ := hrel
         cases gk with
         | zero => exact absurd HA.out (by simp [wire_attributes.l1])
         | succ k4 =>
          have H := HA.out
          clear HA
          simp only [wire_attributes.l1] at H
          by_cases bb : x57_4 < (ac.length : Int)
          ·rw [if_pos bb] at H
           have c44b0 : decide (x57_4 < (ac.length : Int)) = true := decide_eq_true bb
           clear bb
           by_cases c45 : 0 ≤ x57_4
           ·rw [if_pos c45] at H
            have c45b0 : decide (0 ≤ x57_4) = true := decide_eq_true c45
            clear c45
            by_cases c46 : x57_4 < (ac.length : Int)
            ·rw [if_pos c46] at H
             have c46b0 : decide (x57_4 < (ac.length : Int)) = true := decide_eq_true c46
             clear c46
             replace H := Option.bind_eq_some_iff.mp H
             obtain ⟨t238, A470, H⟩ := H
             (try dsimp only at H)
             have A47 := Aside0.mk A470
             clear A470
             replace H := Option.bind_eq_some_iff.mp H
             obtain ⟨t241, A480, H⟩ := H
             (try dsimp only at H)
             have A48 := Aside0.mk A480
             clear A480
             have H' := Aside0.mk H
             clear H
             have p236 : 0 ≤ (x57_4 : Int) := of_decide_eq_true (by first | (with_reducible assumption) | assumption)
             have q236 : x57_4 < (ac.length : Int) := of_decide_eq_true (by first | (with_reducible assumption) | assumption)
             obtain ⟨ad236, e236, hx236_0, hx236_1⟩ := at_T102 HR0_4.out x57_4 p236 q236
             (try (injection e236 with e236; replace e236 := e236.symm; subst e236; have e236 : True := trivial))
             cases e236
             replace hx236_0 := (HB.out.cell (World.block_lt_of_cell? w _ hx236_0)).trans hx236_0
             replace hx236_1 := (HB.out.cell (World.block_lt_of_cell? w _ hx236_1)).trans hx236_1
             replace p236 := eq_true p236
             replace q236 := eq_true q236
             try go_wp2_with (first | ((with_reducible refine gate_dst (N := 10) rfl ?_); refine box_event ?hg (N := 10) ?hd (cs := #[.int .i64 0, .int .i64 0]) (t := 102) ?hr ?_; (case hd => rfl); (case hg => rfl); (case hr => first | (go_simp; done) | (go_simp; rfl)); intro ak hg w49 hbox hb; have n0_ := Aside0.mk (Kd.R_below (by (with_reducible repeat (first | apply Kd.R_alloc | apply Kd.R_drewN | apply Kd.R_drew)); exact HO_3.out) hb); have n1_ := Aside0.mk (Kd.R_below (by (with_reducible repeat (first | apply Kd.R_alloc | apply Kd.R_drewN | apply Kd.R_drew)); exact HO_7.out) hb); have n2_ := Aside0.mk (blk_below (g := ab) (by (with_reducible repeat (first | refine blk_drewN ?_ _ | refine blk_drew ?_ | refine blk_alloc ?_ _)); exact aa.out) hb); have n3_ := Aside0.mk (below_step (by repeat (first | (with_reducible first | exact HB.out | apply below_alloc | apply pw_below_drewN | apply below_drew1 | refine below_set ?_ ad.out) | exact HB.out)) hb); have n4_ := Aside0.mk (hbox); have n5_ := Aside0.mk ((by rw [hg]; exact (below_size (by repeat (first | (with_reducible first | exact HB.out | apply below_alloc | apply pw_below_drewN | apply below_drew1 | refine below_set ?_ ad.out) | exact HB.out))) : w.heap.size ≤ ak)); have n6_ := Aside0.mk ((by rw [hg]; exact (below_size (by repeat (first | (with_reducible first | exact HB.out | apply below_alloc | apply pw_below_drewN | apply below_drew1 | refine below_set ?_ ad.out) | exact HB.out))) : w.heap.size ≤ ak)); have n7_ := Aside0.mk ((by rw [hg]; exact Nat.ne_of_lt (blk_lt (g := ab) (o := .cells #[.int .i64 aj, .int .i64 ah, .int .i64 ai, .slice an ae.length ao, .slice (some ad236) ac.length ap, .int .i64 ag, .slice aq af.length ar] 41 (0, 0)) (by (with_reducible repeat (first | refine blk_drewN ?_ _ | refine blk_drew ?_ | refine blk_alloc ?_ _)); exact aa.out)) : ab ≠ ak)); have n8_ := Aside0.mk ((by rw [hg]; exact Nat.ne_of_gt (blk_lt (g := ab) (o := .cells #[.int .i64 aj, .int .i64 ah, .int .i64 ai, .slice an ae.length ao, .slice (some ad236) ac.length ap, .int .i64 ag, .slice aq af.length ar] 41 (0, 0)) (by (with_reducible repeat (first | refine blk_drewN ?_ _ | refine blk_drew ?_ | refine blk_alloc ?_ _)); exact aa.out)) : ak ≠ ab)); clear HO_3; clear HO_7; clear aa; clear HB; have HO_3 := n0_; have HO_7 := n1_; have aa := n2_; have HB := n3_; have al := n4_; have GW237 := n5_; have GE237 := n6_; have NB207_237 := n7_; have NB237_207 := n8_; clear n0_ n1_ n2_ n3_ n4_ n5_ n6_ n7_ n8_; clear hb hbox hg; have hnb50 := NB237_207.out; have hnc50 := NB207_237.out; have hcz51_0 : w49.cell? ⟨ak, 0, none⟩ = some (.int .i64 0) := (blk_cell al.out 0).trans rfl; have hcz51_1 : w49.cell? ⟨ak, 1, none⟩ = some (.int .i64 0) := (blk_cell al.out 1).trans rfl; have hfz51_0 := blk_frozen al.out 0; have hfz51_1 := blk_frozen al.out 1))
             have n0_ : Aside0 (Kd.R (Kd.int .u8) 5 ((w49.setCell ⟨ak, 0, none⟩ (.int .i64 ((rd_T102 ac x57_4).f0))).setCell ⟨ak, 1, none⟩ (.int .i64 ((rd_T102 ac x57_4).f1))) w.heap.size (fun k_ => some k_ ≠ (u7 : Value).ownBlock) v234 t233) := ⟨by (with_reducible repeat (first | apply Kd.R_alloc | apply Kd.R_drewN | apply Kd.R_drew)); exact Kd.R_mono (Kd.R_far (p := ⟨ak, 1, none⟩) (Kd.R_far (p := ⟨ak, 0, none⟩) (Kd.R_types HO_3.out al.out (by decide)) (fun _ hk => hk.2) (.int .i64 ((rd_T102 ac x57_4).f0))) (fun _ hk => hk.2) (.int .i64 ((rd_T102 ac x57_4).f1))) (fun _ hk => hk.1)⟩
             have n1_ : Aside0 (Kd.R (Kd.int .u8) 5 ((w49.setCell ⟨ak, 0, none⟩ (.int .i64 ((rd_T102 ac x57_4).f0))).setCell ⟨ak, 1, none⟩ (.int .i64 ((rd_T102 ac x57_4).f1))) w.heap.size (fun k_ => some k_ ≠ (v234 : Value).ownBlock) u7 x7_4) := ⟨by (with_reducible repeat (first | apply Kd.R_alloc | apply Kd.R_drewN | apply Kd.R_drew)); exact Kd.R_mono (Kd.R_far (p := ⟨ak, 1, none⟩) (Kd.R_far (p := ⟨ak, 0, none⟩) (Kd.R_types HO_7.out al.out (by decide)) (fun _ hk => hk.2) (.int .i64 ((rd_T102 ac x57_4).f0))) (fun _ hk => hk.2) (.int .i64 ((rd_T102 ac x57_4).f1))) (fun _ hk => hk.1)⟩
             have n2_ : Aside0 (((w49.setCell ⟨ak, 0, none⟩ (.int .i64 ((rd_T102 ac x57_4).f0))).setCell ⟨ak, 1, none⟩ (.int .i64 ((rd_T102 ac x57_4).f1))).heap[ab]? = some (.cells #[.int .i64 aj, .int .i64 ah, .int .i64 ai, .slice an ae.length ao, .slice (some ad236) ac.length ap, .int .i64 ag, .slice aq af.length ar] 41 (0, 0))) := ⟨by (with_reducible repeat (first | refine blk_drewN ?_ _ | refine blk_drew ?_ | refine blk_alloc ?_ _)); refine blk_far ?_ NB207_237.out _; (with_reducible repeat (first | refine blk_drewN ?_ _ | refine blk_drew ?_ | refine blk_alloc ?_ _)); refine blk_far ?_ NB207_237.out _; (with_reducible repeat (first | refine blk_drewN ?_ _ | refine blk_drew ?_ | refine blk_alloc ?_ _)); exact aa.out⟩
             have n3_ : Aside0 (((w49.setCell ⟨ak, 0, none⟩ (.int .i64 ((rd_T102 ac x57_4).f0))).setCell ⟨ak, 1, none⟩ (.int .i64 ((rd_T102 ac x57_4).f1))).heap[ak]? = some (.cells #[.int .i64 ((rd_T102 ac x57_4).f0), .int .i64 ((rd_T102 ac x57_4).f1)] 102 (0, 0))) := ⟨by (with_reducible repeat (first | refine blk_drewN ?_ _ | refine blk_drew ?_ | refine blk_alloc ?_ _)); refine blk_put (cs := #[.int .i64 ((rd_T102 ac x57_4).f0), .int .i64 0]) ?_ 1 _ (by first | rfl | (simp; done) | (simp; omega)); (with_reducible repeat (first | refine blk_drewN ?_ _ | refine blk_drew ?_ | refine blk_alloc ?_ _)); refine blk_put (cs := #[.int .i64 0, .int .i64 0]) ?_ 0 _ (by first | rfl | (simp; done) | (simp; omega)); (with_reducible repeat (first | refine blk_drewN ?_ _ | refine blk_drew ?_ | refine blk_alloc ?_ _)); exact al.out⟩
             have n4_ : Aside0 (Below w.heap.size w ((w49.setCell ⟨ak, 0, none⟩ (.int .i64 ((rd_T102 ac x57_4).f0))).setCell ⟨ak, 1, none⟩ (.int .i64 ((rd_T102 ac x57_4).f1)))) := ⟨by repeat (first | (with_reducible first | exact HB.out | apply below_alloc | apply pw_below_drewN | apply below_drew1 | refine below_set ?_ ad.out | refine below_set ?_ GE237.out) | exact HB.out)⟩
             (try clear HO_3)
             (try clear HO_7)
             (try clear aa)
             (try clear al)
             (try clear HB)
             generalize ((w49.setCell ⟨ak, 0, none⟩ (.int .i64 ((rd_T102 ac x57_4).f0))).setCell ⟨ak, 1, none⟩ (.int .i64 ((rd_T102 ac x57_4).f1))) = w52 at n0_ n1_ n2_ n3_ n4_ ⊢
             have HO_3 := n0_
             have HO_7 := n1_
             have aa := n2_
             have al := n3_
             have HB := n4_
             clear n0_ n1_ n2_ n3_ n4_
             replace HO_3 := Aside0.mk (Kd.R_drew HO_3.out)
             replace HO_7 := Aside0.mk (Kd.R_drew HO_7.out)
             replace aa := Aside0.mk (blk_drew aa.out)
             replace al := Aside0.mk (blk_drew al.out)
             replace HB := Aside0.mk (below_drew1 HB.out)
             obtain ⟨Ao54, co54, eo54⟩ := Kd.R_slice HO_7.out
             (first | subst eo54 | (injection eo54 with f1_ f2_ f3_; have f4_ := f1_.symm; have f5_ := f3_.symm; clear f1_ f2_ f3_; subst f4_; subst f5_))
             refine start_ (n := 8) (S := fun w' => w'.cell? ⟨ak, 0, none⟩ = some (.int .i64 ((rd_T102 ac x57_4).f0)) ∧ w'.cell? ⟨ak, 1, none⟩ = some (.int .i64 ((rd_T102 ac x57_4).f1))) (ds := []) #[false, false, false, false, false, false, false, false] (by kernel_rfl) rfl rfl (k0567.b2e al.out) (fun hHeld => ?_); refine with_tabW wire_attributes.tab18 wire_attributes.bits18 (fun HT_ HW_ => ?_)
             generalize w52.drew = w53 at HO_3 HO_7 aa al HB hHeld ⊢
             refine pure_ (i := 0) (N := some 61) (v := ?_) (a' := ?_) #[true, false, false, false, false, false, false, false] rfl rfl (any_of HT_.out (by kernel_rfl)) (fun _ _ _ h => h) (Or.inl ⟨by rfl, ?_⟩) ?_ ?_
             rotate_left
             ·intro w'
              go_simp
              with_reducible rfl
             rotate_left
             ·simp only [Act.put, List.setIfInBounds_toArray, List.set_cons_zero, List.set_cons_succ, i64_w]
              rfl
             refine pure_ (i := 1) (N := some 62) (v := ?_) (a' := ?_) #[true, true, false, false, false, false, false, false] rfl rfl (any_of HT_.out (by kernel_rfl)) (fun _ _ _ h => h) (Or.inl ⟨by rfl, ?_⟩) ?_ ?_
             rotate_left
             ·intro w'
              go_simp
              with_reducible rfl
             rotate_left
             ·simp only [Act.put, List.setIfInBounds_toArray, List.set_cons_zero, List.set_cons_succ, i64_w]
              rfl
             refine pure_ (i := 4) (N := some 65) (v := ?_) (a' := ?_) #[true, true, false, false, true, false, false, false] rfl rfl (any_of HT_.out (by kernel_rfl)) (fun _ _ _ h => h) (Or.inl ⟨by rfl, ?_⟩) ?_ ?_
             rotate_left
             ·intro w'
              go_simp
              with_reducible rfl
             rotate_left
             ·simp only [Act.put, List.setIfInBounds_toArray, List.set_cons_zero, List.set_cons_succ, i64_w]
              rfl
             refine take_ (i := 2) (N := some 63) (v := ?_) (a' := ?_) #[true, true, true, false, true, false, false, false] rfl rfl (take_ofW HT_.out HW_.out (by kernel_rfl)) (fun _ _ _ h => h) (Or.inl ⟨by rfl, ?_⟩) hHeld ?_ ?_
             rotate_left
             ·rintro w' ⟨s0, s1⟩
              go_simp
              with_reducible rfl
             rotate_left
             ·simp only [Act.put, List.setIfInBounds_toArray, List.set_cons_zero, List.set_cons_succ, i64_w]
              rfl
             refine take_ (i := 5) (N := some 66) (v := ?_) (a' := ?_) #[true, true, true, false, true, true, false, false] rfl rfl (take_ofW HT_.out HW_.out (by kernel_rfl)) (fun _ _ _ h => h) (Or.inl ⟨by rfl, ?_⟩) hHeld ?_ ?_
             rotate_left
             ·rintro w' ⟨s0, s1⟩
              go_simp
              with_reducible rfl
             rotate_left
             ·simp only [Act.put, List.setIfInBounds_toArray, List.set_cons_zero, List.set_cons_succ, i64_w]
              rfl
             refine one_ (i := 3) (N := some 64) #[true, true, true, true, true, true, false, false] rfl rfl (one_of HT_.out (by kernel_rfl)) (by decide) (fun K hK => ?_)
             refine goes_ Try.func28 (by kernel_rfl) rfl #[.slice Ao54 x7_4.length co54, .int .i64 ((rd_T102 ac x57_4).f0), .int .i64 2] (by rfl) rfl rfl (by (try simp only [List.map_toArray, List.map_cons, List.map_nil]); first | done | rfl) ?_
             with_reducible refine (wire_number.calls k4 (fun k_ => some k_ = (.slice Ao54 x7_4.length co54 : Value).ownBlock) (.slice Ao54 x7_4.length co54) x7_4 ((rd_T102 ac x57_4).f0) 2 t238 w _ ?side1 ?side2 A47.out).mono ?_
             (case side1 => repeat (first | (with_reducible first | exact HB.out | apply below_alloc | apply pw_below_drewN | apply below_drew1 | refine below_set ?_ ad.out | refine below_set ?_ GE237.out) | exact HB.out))
             (case side2 => exact Kd.R_tight rfl HO_7.out)
             rintro e w55 ⟨v239, rfl, ho0, hb, hkp⟩
             refine ⟨_, rfl, ?_⟩
             have n0_ := Aside0.mk (Kd.R_mono (ok' := fun k_ => some k_ ≠ (v239 : Value).ownBlock) (Kd.R_keptB (HO_3.out) hkp (fun k_ hk_ hs_ => (hk_) hs_)) (fun k_ hk_ => fun e_ => Or.elim (ho0.1 k_ e_.symm) (fun hs_ => hk_.2.1 hs_) (fun hn_ => Nat.not_le.2 hk_.2.2 hn_)))
             have n1_ := Aside0.mk (blk_kept (by (with_reducible repeat (first | refine blk_drewN ?_ _ | refine blk_drew ?_ | refine blk_alloc ?_ _)); exact aa.out) hkp (fun hs_ => (fun e_ => (Kd.R_ne HO_7.out aa.out (by decide)) e_) hs_))
             have n2_ := Aside0.mk (blk_kept (by (with_reducible repeat (first | refine blk_drewN ?_ _ | refine blk_drew ?_ | refine blk_alloc ?_ _)); exact al.out) hkp (fun hs_ => (fun e_ => (Kd.R_ne HO_7.out al.out (by decide)) e_) hs_))
             have n3_ := Aside0.mk (Kd.R_mono (ok' := fun k_ => some k_ ≠ (v234 : Value).ownBlock) ho0 (fun k_ hk_ => Or.elim hk_ (fun hs_ => fun e_ => (((HO_3.out).1 k_ e_.symm)) hs_) (fun hn_ => (Kd.fresh' (Kd.R_lt (by (with_reducible repeat (first | apply Kd.R_alloc | apply Kd.R_drewN | apply Kd.R_drew)); exact HO_3.out)) k_ hn_))))
             have n4_ := Aside0.mk (hb)
             clear HO_3
             clear aa
             clear al
             clear HB
             clear HO_7
             have HO_3 := n0_
             have aa := n1_
             have al := n2_
             have HO240 := n3_
             have HB := n4_
             clear n0_ n1_ n2_ n3_ n4_
             (try clear hb)
             (try clear hkp)
             (try clear ho0)
             obtain ⟨Ao56, co56, eo56⟩ := Kd.R_slice HO240.out
             (first | subst eo56 | (injection eo56 with f1_ f2_ f3_; have f4_ := f1_.symm; have f5_ := f3_.symm; clear f1_ f2_ f3_; subst f4_; subst f5_))
             refine hK.out _ _ (k0567.b2e al.out) (fun hHeld => ?_)
             clear hK K
             refine norm_ (a' := ?_) ?_ ?_
             rotate_left
             ·show Act.put _ (some 64) _ = _
              simp only [Act.put, List.setIfInBounds_toArray, List.set_cons_zero, List.set_cons_succ, i64_w]
              rfl
             refine one_ (i := 6) (N := some 67) #[true, true, true, true, true, true, true, false] rfl rfl (one_of HT_.out (by kernel_rfl)) (by decide) (fun K hK => ?_)
             refine goes_ Try.func28 (by kernel_rfl) rfl #[.slice Ao56 t238.length co56, .int .i64 ((rd_T102 ac x57_4).f1), .int .i64 2] (by rfl) rfl rfl (by (try simp only [List.map_toArray, List.map_cons, List.map_nil]); first | done | rfl) ?_
             with_reducible refine (wire_number.calls k4 (fun k_ => some k_ = (.slice Ao56 t238.length co56 : Value).ownBlock) (.slice Ao56 t238.length co56) t238 ((rd_T102 ac x57_4).f1) 2 t241 w _ ?side1 ?side2 A48.out).mono ?_
             (case side1 => repeat (first | (with_reducible first | exact HB.out | apply below_alloc | apply pw_below_drewN | apply below_drew1 | refine below_set ?_ ad.out | refine below_set ?_ GE237.out) | exact HB.out))
             (case side2 => exact Kd.R_tight rfl HO240.out)
             rintro e w57 ⟨v242, rfl, ho0, hb, hkp⟩
             refine ⟨_, rfl, ?_⟩
             have n0_ := Aside0.mk (Kd.R_mono (ok' := fun k_ => some k_ ≠ (v242 : Value).ownBlock) (Kd.R_keptB (HO_3.out) hkp (fun k_ hk_ hs_ => (hk_) hs_)) (fun k_ hk_ => fun e_ => Or.elim (ho0.1 k_ e_.symm) (fun hs_ => hk_.2.1 hs_) (fun hn_ => Nat.not_le.2 hk_.2.2 hn_)))
             have n1_ := Aside0.mk (blk_kept (by (with_reducible repeat (first | refine blk_drewN ?_ _ | refine blk_drew ?_ | refine blk_alloc ?_ _)); exact aa.out) hkp (fun hs_ => (fun e_ => (Kd.R_ne HO240.out aa.out (by decide)) e_) hs_))
             have n2_ := Aside0.mk (blk_kept (by (with_reducible repeat (first | refine blk_drewN ?_ _ | refine blk_drew ?_ | refine blk_alloc ?_ _)); exact al.out) hkp (fun hs_ => (fun e_ => (Kd.R_ne HO240.out al.out (by decide)) e_) hs_))
             have n3_ := Aside0.mk (Kd.R_mono (ok' := fun k_ => some k_ ≠ (v234 : Value).ownBlock) ho0 (fun k_ hk_ => Or.elim hk_ (fun hs_ => fun e_ => (((HO_3.out).1 k_ e_.symm)) hs_) (fun hn_ => (Kd.fresh' (Kd.R_lt (by (with_reducible repeat (first | apply Kd.R_alloc | apply Kd.R_drewN | apply Kd.R_drew)); exact HO_3.out)) k_ hn_))))
             have n4_ := Aside0.mk (hb)
             clear HO_3
             clear aa
             clear al
             clear HB
             clear HO240
             have HO_3 := n0_
             have aa := n1_
             have al := n2_
             have HO243 := n3_
             have HB := n4_
             clear n0_ n1_ n2_ n3_ n4_
             (try clear hb)
             (try clear hkp)
             (try clear ho0)
             refine hK.out _ _ (k0567.b2e al.out) (fun hHeld => ?_)
             clear hK K
             refine norm_ (a' := ?_) ?_ ?_
             rotate_left
             ·show Act.put _ (some 67) _ = _
              simp only [Act.put, List.setIfInBounds_toArray, List.set_cons_zero, List.set_cons_succ, i64_w]
              rfl
             refine pure_ (i := 7) (N := some 7) (v := ?_) (a' := ?_) #[true, true, true, true, true, true, true, true] rfl rfl (any_of HT_.out (by kernel_rfl)) (fun _ _ _ h => h) (Or.inl ⟨by rfl, ?_⟩) ?_ ?_
             rotate_left
             ·intro w'
              go_simp
              with_reducible rfl
             rotate_left
             ·simp only [Act.put, List.setIfInBounds_toArray, List.set_cons_zero, List.set_cons_succ, i64_w]
              rfl
             refine done_ (done_of HT_.out (by kernel_rfl)) ?_
             try go_wp2
             go_roundg k4
             case measure => have := HJ2.out; have := HK2.out; have := HJ22.out; have := HK4.out; omega
             case rel => exact ⟨(t241), (wrap64 (x57_4 + 1)), (by first | rfl | (simp; done) | (simp [*]; done)), H', ⟨by have := HJ2.out; have := HK2.out; have := HJ22.out; have := HK4.out; omega⟩, ⟨by (with_reducible repeat (first | apply Kd.R_alloc | apply Kd.R_drewN | apply Kd.R_drew)); exact HO_3.out⟩, ⟨by (with_reducible repeat (first | apply Kd.R_alloc | apply Kd.R_drewN | apply Kd.R_drew)); exact HO243.out⟩, ⟨by (with_reducible repeat (first | refine blk_drewN ?_ _ | refine blk_drew ?_ | refine blk_alloc ?_ _)); exact aa.out⟩, ⟨by repeat (first | (with_reducible first | exact HB.out | apply below_alloc | apply pw_below_drewN | apply below_drew1 | refine below_set ?_ ad.out | refine below_set ?_ GE237.out) | exact HB.out)⟩⟩
            ·rw [if_neg c46] at H
             exact absurd H (by simp)
           ·rw [if_neg c45] at H
            exact absurd H (by simp)
          ·rw [if_neg bb] at H
           have c44b0 : decide (x57_4 < (ac.length : Int)) = false := decide_eq_false bb
           clear bb
           have H' := Aside0.mk H
           clear H
           have hcz58_0 : wr.cell? ⟨ab, 0, none⟩ = some (.int .i64 aj) := (blk_cell aa.out 0).trans rfl
           have hcz58_1 : wr.cell? ⟨ab, 1, none⟩ = some (.int .i64 ah) := (blk_cell aa.out 1).trans rfl
           have hcz58_2 : wr.cell? ⟨ab, 2, none⟩ = some (.int .i64 ai) := (blk_cell aa.out 2).trans rfl
           have hcz58_3 : wr.cell? ⟨ab, 3, none⟩ = some (.slice an ae.length ao) := (blk_cell aa.out 3).trans rfl
           have hcz58_4 : wr.cell? ⟨ab, 4, none⟩ = some (.slice au ac.length ap) := (blk_cell aa.out 4).trans rfl
           have hcz58_5 : wr.cell? ⟨ab, 5, none⟩ = some (.int .i64 ag) := (blk_cell aa.out 5).trans rfl
           have hcz58_6 : wr.cell? ⟨ab, 6, none⟩ = some (.slice aq af.length ar) := (blk_cell aa.out 6).trans rfl
           have hfz58_0 := blk_frozen aa.out 0
           have hfz58_1 := blk_frozen aa.out 1
           have hfz58_2 := blk_frozen aa.out 2
           have hfz58_3 := blk_frozen aa.out 3
           have hfz58_4 := blk_frozen aa.out 4
           have hfz58_5 := blk_frozen aa.out 5
           have hfz58_6 := blk_frozen aa.out 6
           go_wp2
           go_loopg [8, 72] k4 (fun kq v8 v72 w' => ∃ (x8_5 : List Int) (x72_5 : Int), v72 = .int .i64 x72_5 ∧ Aside0 (wire_attributes.l2 kq t233 x7_4 x8_5 af (af.length : Int) x72_5 aj ah ai ae ac ag af = some r) ∧ Aside0 (kq ≤ k4) ∧ Aside0 (Kd.R (Kd.int .u8) 5 w' w.heap.size (fun k_ => some k_ ≠ (u7 : Value).ownBlock ∧ some k_ ≠ (v8 : Value).ownBlock) v234 t233) ∧ Aside0 (Kd.R (Kd.int .u8) 5 w' w.heap.size (fun k_ => some k_ ≠ (v234 : Value).ownBlock ∧ some k_ ≠ (v8 : Value).ownBlock) u7 x7_4) ∧ Aside0 (Kd.R (Kd.int .u8) 5 w' w.heap.size (fun k_ => some k_ ≠ (v234 : Value).ownBlock ∧ some k_ ≠ (u7 : Value).ownBlock) v8 x8_5) ∧ Aside0 (w'.heap[ab]? = some (.cells #[.int .i64 aj, .int .i64 ah, .int .i64 ai, (.slice an ae.length ao), (.slice au ac.length ap), .int .i64 ag, (.slice aq af.length ar)] 41 (0, 0))) ∧ Aside0 (Below w.heap.size w w'))
           case atStart => exact ⟨(([] : List Int)), (0), (by first | rfl | (simp; done) | (simp [*]; done)), H', ⟨Nat.le_refl _⟩, ⟨by (with_reducible repeat (first | apply Kd.R_alloc | apply Kd.R_drewN | apply Kd.R_drew)); exact Kd.R_mono HO_3.out (fun _ hk => ⟨hk, (by simp [Value.ownBlock])⟩)⟩, ⟨by (with_reducible repeat (first | apply Kd.R_alloc | apply Kd.R_drewN | apply Kd.R_drew)); exact Kd.R_mono HO_7.out (fun _ hk => ⟨hk, (by simp [Value.ownBlock])⟩)⟩, ⟨by first | exact Kd.R_nil _ _ _ _ _ | exact Kd.N_nil _ _ _ _ _ | exact Kd.V_nil _ _ _ _ _ | exact Kd.Q_nil _ _ _ _ _ | exact Kd.S_nil _ _ _ _ _⟩, ⟨by (with_reducible repeat (first | refine blk_drewN ?_ _ | refine blk_drew ?_ | refine blk_alloc ?_ _)); exact aa.out⟩, ⟨by repeat (first | (with_reducible first | exact HB.out | apply below_alloc | apply pw_below_drewN | apply below_drew1 | refine below_set ?_ ad.out) | exact HB.out)⟩⟩
           case round =>
            clear H'
            try clear c1
            try clear c2
            try clear p2
            try clear q2
            try clear hx2
            try clear c3
            try clear c4
            try clear c5
            try clear c6
            try clear p6
            try clear az
            try clear c11b0
            try clear c11b1
            try clear a7
            try clear c16b0
            try clear a9
            try clear c17b0
            try clear ba
            try clear c18b0
            try clear p21
            try clear q21
            try clear hx21
            try clear p23
            try clear q23
            try clear hx23
            try clear a8
            try clear c28b0
            try clear c36
            try clear bb
            try clear c44b0
            try clear c45
            try clear c45b0
            try clear c46
            try clear c46b0
            try clear c50
            try clear hcz10_0
            try clear hcz10_1
            try clear hcz10_2
            try clear hcz10_3
            try clear hcz10_4
            try clear hcz10_5
            try clear hcz10_6
            try clear hcz12_0
            try clear hcz12_1
            try clear hcz12_2
            try clear hcz12_3
            try clear hcz12_4
            try clear hcz12_5
            try clear hcz12_6
            try clear hcz15_0
            try clear hcz15_1
            try clear hcz15_2
            try clear hcz15_3
            try clear hcz15_4
            try clear hcz15_5
            try clear hcz15_6
            try clear hcz27_0
            try clear hcz27_1
            try clear hcz27_2
            try clear hcz27_3
            try clear hcz27_4
            try clear hcz27_5
            try clear hcz27_6
            try clear hcz31_0
            try clear hcz31_1
            try clear hcz31_2
            try clear hcz31_3
            try clear hcz31_4
            try clear hcz31_5
            try clear hcz31_6
            try clear hcz38_0
            try clear hcz38_1
            try clear hcz38_2
            try clear hcz38_3
            try clear hcz38_4
            try clear hcz38_5
            try clear hcz38_6
            try clear hcz43_0
            try clear hcz43_1
            try clear hcz43_2
            try clear hcz43_3
            try clear hcz43_4
            try clear hcz43_5
            try clear hcz43_6
            try clear hcz51_0
            try clear hcz51_1
            try clear hcz58_0
            try clear hcz58_1
            try clear hcz58_2
            try clear hcz58_3
            try clear hcz58_4
            try clear hcz58_5
            try clear hcz58_6
            try clear hcz5_0
            try clear hcz5_1
            try clear hcz5_2
            try clear hcz5_3
            try clear hcz5_4
            try clear hcz5_5
            try clear hcz5_6
            try clear hfz10_0
            try clear hfz10_1
            try clear hfz10_2
            try clear hfz10_3
            try clear hfz10_4
            try clear hfz10_5
            try clear hfz10_6
            try clear hfz12_0
            try clear hfz12_1
            try clear hfz12_2
            try clear hfz12_3
            try clear hfz12_4
            try clear hfz12_5
            try clear hfz12_6
            try clear hfz15_0
            try clear hfz15_1
            try clear hfz15_2
            try clear hfz15_3
            try clear hfz15_4
            try clear hfz15_5
            try clear hfz15_6
            try clear hfz27_0
            try clear hfz27_1
            try clear hfz27_2
            try clear hfz27_3
            try clear hfz27_4
            try clear hfz27_5
            try clear hfz27_6
            try clear hfz31_0
            try clear hfz31_1
            try clear hfz31_2
            try clear hfz31_3
            try clear hfz31_4
            try clear hfz31_5
            try clear hfz31_6
            try clear hfz38_0
            try clear hfz38_1
            try clear hfz38_2
            try clear hfz38_3
            try clear hfz38_4
            try clear hfz38_5
            try clear hfz38_6
            try clear hfz43_0
            try clear hfz43_1
            try clear hfz43_2
            try clear hfz43_3
            try clear hfz43_4
            try clear hfz43_5
            try clear hfz43_6
            try clear hfz51_0
            try clear hfz51_1
            try clear hfz58_0
            try clear hfz58_1
            try clear hfz58_2
            try clear hfz58_3
            try clear hfz58_4
            try clear hfz58_5
            try clear hfz58_6
            try clear hfz5_0
            try clear hfz5_1
            try clear hfz5_2
            try clear hfz5_3
            try clear hfz5_4
            try clear hfz5_5
            try clear hfz5_6
            try clear hx217_0
            try clear hx236_0
            try clear hx236_1
            try clear p2
            try clear p21
            try clear p217
            try clear p236
            try clear p6
            try clear q2
            try clear q21
            try clear q217
            try clear q236
            obtain ⟨x8_5, x72_5, rfl, HA, HK5, HO_3, HO_7, HO_8, aa, HB⟩ := hrel
            cases gk with
            | zero => exact absurd HA.out (by simp [wire_attributes.l2])
            | succ k5 =>
             have H := HA.out
             clear HA
             simp only [wire_attributes.l2] at H
             by_cases c59 : x72_5 < (af.length : Int)
             ·rw [if_pos c59] at H
              have c59b0 : decide (x72_5 < (af.length : Int)) = true := decide_eq_true c59
              clear c59
              by_cases c60 : 0 ≤ x72_5
              ·rw [if_pos c60] at H
               have c60b0 : decide (0 ≤ x72_5) = true := decide_eq_true c60
               clear c60
               by_cases c61 : x72_5 < (af.length : Int)
               ·rw [if_pos c61] at H
                have c61b0 : decide (x72_5 < (af.length : Int)) = true := decide_eq_true c61
                clear c61
                replace H := Option.bind_eq_some_iff.mp H
                obtain ⟨t245, A620, H⟩ := H
                (try dsimp only at H)
                have A62 := Aside0.mk A620
                clear A620
                have H' := Aside0.mk H
                clear H
                have p244 : 0 ≤ (x72_5 : Int) := of_decide_eq_true (by first | (with_reducible assumption) | assumption)
                have q244 : x72_5 < (af.length : Int) := of_decide_eq_true (by first | (with_reducible assumption) | assumption)
                obtain ⟨ad244, e244, hx244_0⟩ := Kd.at_int HR0_6.out x72_5 p244 q244
                (try (injection e244 with e244; replace e244 := e244.symm; subst e244; have e244 : True := trivial))
                cases e244
                replace hx244_0 := (HB.out.cell (World.block_lt_of_cell? w _ hx244_0)).trans hx244_0
                replace p244 := eq_true p244
                replace q244 := eq_true q244
                obtain ⟨Ao63, co63, eo63⟩ := Kd.R_slice HO_8.out
                subst eo63
                go_wp2_with (first | ((with_reducible refine gate_callee (f := 28) rfl ?_); refine goesL_ (some 78) rfl rfl Try.func28 (by kernel_rfl) rfl #[.slice Ao63 x8_5.length co63, .int .i64 (rd af x72_5), .int .i64 4] rfl (by (try simp only [List.map_toArray, List.map_cons, List.map_nil]); first | done | rfl) ?_; (with_reducible refine (wire_number.calls k5 (fun k_ => some k_ = (.slice Ao63 x8_5.length co63 : Value).ownBlock) (.slice Ao63 x8_5.length co63) x8_5 (rd af x72_5) 4 t245 w _ ?side1 ?side2 A62.out).mono ?_); (case side1 => repeat (first | (with_reducible first | exact HB.out | apply below_alloc | apply pw_below_drewN | apply below_drew1 | refine below_set ?_ ad.out) | exact HB.out)); (case side2 => exact Kd.R_tight rfl HO_8.out); rintro e w64 ⟨v246, rfl, ho0, hb, hkp⟩; refine ⟨_, rfl, ?_⟩; have n0_ := Aside0.mk (Kd.R_mono (ok' := fun k_ => some k_ ≠ (u7 : Value).ownBlock ∧ some k_ ≠ (v246 : Value).ownBlock) (Kd.R_keptB (HO_3.out) hkp (fun k_ hk_ hs_ => (hk_.2) hs_)) (fun k_ hk_ => ⟨hk_.1.1, fun e_ => Or.elim (ho0.1 k_ e_.symm) (fun hs_ => hk_.2.1 hs_) (fun hn_ => Nat.not_le.2 hk_.2.2 hn_)⟩)); have n1_ := Aside0.mk (Kd.R_mono (ok' := fun k_ => some k_ ≠ (v234 : Value).ownBlock ∧ some k_ ≠ (v246 : Value).ownBlock) (Kd.R_keptB (HO_7.out) hkp (fun k_ hk_ hs_ => (hk_.2) hs_)) (fun k_ hk_ => ⟨hk_.1.1, fun e_ => Or.elim (ho0.1 k_ e_.symm) (fun hs_ => hk_.2.1 hs_) (fun hn_ => Nat.not_le.2 hk_.2.2 hn_)⟩)); have n2_ := Aside0.mk (blk_kept (by (with_reducible repeat (first | refine blk_drewN ?_ _ | refine blk_drew ?_ | refine blk_alloc ?_ _)); exact aa.out) hkp (fun hs_ => (fun e_ => (Kd.R_ne HO_8.out aa.out (by decide)) e_) hs_)); have n3_ := Aside0.mk (Kd.R_mono (ok' := fun k_ => some k_ ≠ (v234 : Value).ownBlock ∧ some k_ ≠ (u7 : Value).ownBlock) ho0 (fun k_ hk_ => ⟨Or.elim hk_ (fun hs_ => fun e_ => (((HO_3.out).1 k_ e_.symm).2) hs_) (fun hn_ => (Kd.fresh' (Kd.R_lt (by (with_reducible repeat (first | apply Kd.R_alloc | apply Kd.R_drewN | apply Kd.R_drew)); exact HO_3.out)) k_ hn_)), Or.elim hk_ (fun hs_ => fun e_ => (((HO_7.out).1 k_ e_.symm).2) hs_) (fun hn_ => (Kd.fresh' (Kd.R_lt (by (with_reducible repeat (first | apply Kd.R_alloc | apply Kd.R_drewN | apply Kd.R_drew)); exact HO_7.out)) k_ hn_))⟩)); have n4_ := Aside0.mk (hb); clear HO_3; clear HO_7; clear aa; clear HB; clear HO_8; have HO_3 := n0_; have HO_7 := n1_; have aa := n2_; have HO247 := n3_; have HB := n4_; clear n0_ n1_ n2_ n3_ n4_; (try clear hb); (try clear hkp); (try clear ho0)))
                go_roundg k5
                case measure => have := HJ2.out; have := HK2.out; have := HJ22.out; have := HK4.out; have := HK5.out; omega
                case rel => exact ⟨(t245), (wrap64 (x72_5 + 1)), (by first | rfl | (simp; done) | (simp [*]; done)), H', ⟨by have := HJ2.out; have := HK2.out; have := HJ22.out; have := HK4.out; have := HK5.out; omega⟩, ⟨by (with_reducible repeat (first | apply Kd.R_alloc | apply Kd.R_drewN | apply Kd.R_drew)); exact HO_3.out⟩, ⟨by (with_reducible repeat (first | apply Kd.R_alloc | apply Kd.R_drewN | apply Kd.R_drew)); exact HO_7.out⟩, ⟨by (with_reducible repeat (first | apply Kd.R_alloc | apply Kd.R_drewN | apply Kd.R_drew)); exact HO247.out⟩, ⟨by (with_reducible repeat (first | refine blk_drewN ?_ _ | refine blk_drew ?_ | refine blk_alloc ?_ _)); exact aa.out⟩, ⟨by repeat (first | (with_reducible first | exact HB.out | apply below_alloc | apply pw_below_drewN | apply below_drew1 | refine below_set ?_ ad.out) | exact HB.out)⟩⟩
               ·rw [if_neg c61] at H
                exact absurd H (by simp)
              ·rw [if_neg c60] at H
               exact absurd H (by simp)
             ·rw [if_neg c59] at H
              have c59b0 : decide (x72_5 < (af.length : Int)) = false := decide_eq_false c59
              clear c59
              have HC65 := Aside0.mk H
              clear H
              obtain ⟨Ao66, co66, eo66⟩ := Kd.R_slice HO_7.out
              subst eo66
              go_upto_if 82 with (fail)
              go_cut [3] (fun v3 wc => ∃ (kq : Nat) (x3_64 : List Int), Aside0 (wire_attributes.j5 kq x3_64 x8_5 aj ah ai ae ac ag af = some r) ∧ Aside0 (kq ≤ k5) ∧ Aside0 (Kd.R (Kd.int .u8) 5 wc w.heap.size (fun k_ => some k_ ≠ (u8 : Value).ownBlock) v3 x3_64) ∧ Aside0 (Kd.R (Kd.int .u8) 5 wc w.heap.size (fun k_ => some k_ ≠ (v3 : Value).ownBlock) u8 x8_5) ∧ Aside0 (wc.heap[ab]? = some (.cells #[.int .i64 aj, .int .i64 ah, .int .i64 ai, (.slice an ae.length ao), (.slice au ac.length ap), .int .i64 ag, (.slice aq af.length ar)] 41 (0, 0))) ∧ Aside0 (Below w.heap.size w wc))
              case first =>
               have H := HC65.out
               clear HC65
               by_cases c67 : (x7_4.length : Int) > 0
               ·rw [if_pos c67] at H
                have c67b0 : decide (0 < (x7_4.length : Int)) = true := decide_eq_true c67
                have c67b1 : decide (0 < x7_4.length) = true := decide_eq_true (by omega)
                clear c67
                (first | rw [c67b0] | rw [c67b1] | (simp only [i64_w]; rw [c67b0]) | skip)
                replace H := Option.bind_eq_some_iff.mp H
                obtain ⟨t248, A680, H⟩ := H
                replace H : (wire_attributes.j5 k5 t248 x8_5 aj ah ai ae ac ag af) = some r := H
                have A68 := Aside0.mk A680
                clear A680
                have H' := Aside0.mk H
                clear H
                obtain ⟨Ao69, co69, eo69⟩ := Kd.R_slice HO_3.out
                subst eo69
                go_wp2_with (first | ((with_reducible refine gate_callee (f := 63) rfl ?_); refine goesL_ (some 85) rfl rfl Try.func63 (by kernel_rfl) rfl #[.slice Ao69 t233.length co69, .int .u8 192, .int .u8 8, .slice Ao66 x7_4.length co66] rfl (by (try simp only [List.map_toArray, List.map_cons, List.map_nil]); first | done | rfl) ?_; (with_reducible refine (wire_one.calls (fun k_ => some k_ = (.slice Ao69 t233.length co69 : Value).ownBlock) (.slice Ao69 t233.length co69) t233 192 8 _ _ x7_4 t248 w _ ?side1 ?side2 ?side3 ?side4 A68.out).mono ?_); (case side1 => repeat (first | (with_reducible first | exact HB.out | apply below_alloc | apply pw_below_drewN | apply below_drew1 | refine below_set ?_ ad.out) | exact HB.out)); (case side2 | side4 => first | exact Kd.R_tight rfl HO_3.out | exact (Kd.R_reads' HO_7.out).2.1); (case side3 => exact Kd.C_kept_own (HO_7.out) (fun k_ hk_ hs_ => (hk_.1) hs_)); rintro e w70 ⟨v249, rfl, ho0, hb, hkp⟩; refine ⟨_, rfl, ?_⟩; have n0_ := Aside0.mk (Kd.R_mono (ok' := fun k_ => some k_ ≠ (u8 : Value).ownBlock ∧ some k_ ≠ (v249 : Value).ownBlock) (Kd.R_keptB (HO_7.out) hkp (fun k_ hk_ hs_ => (hk_.1) hs_)) (fun k_ hk_ => ⟨hk_.1.2, fun e_ => Or.elim (ho0.1 k_ e_.symm) (fun hs_ => hk_.2.1 hs_) (fun hn_ => Nat.not_le.2 hk_.2.2 hn_)⟩)); have n1_ := Aside0.mk (Kd.R_mono (ok' := fun k_ => some k_ ≠ (.slice Ao66 x7_4.length co66 : Value).ownBlock ∧ some k_ ≠ (v249 : Value).ownBlock) (Kd.R_keptB (HO_8.out) hkp (fun k_ hk_ hs_ => (hk_.1) hs_)) (fun k_ hk_ => ⟨hk_.1.2, fun e_ => Or.elim (ho0.1 k_ e_.symm) (fun hs_ => hk_.2.1 hs_) (fun hn_ => Nat.not_le.2 hk_.2.2 hn_)⟩)); have n2_ := Aside0.mk (blk_kept (by (with_reducible repeat (first | refine blk_drewN ?_ _ | refine blk_drew ?_ | refine blk_alloc ?_ _)); exact aa.out) hkp (fun hs_ => (fun e_ => (Kd.R_ne HO_3.out aa.out (by decide)) e_) hs_)); have n3_ := Aside0.mk (Kd.R_mono (ok' := fun k_ => some k_ ≠ (.slice Ao66 x7_4.length co66 : Value).ownBlock ∧ some k_ ≠ (u8 : Value).ownBlock) ho0 (fun k_ hk_ => ⟨Or.elim hk_ (fun hs_ => fun e_ => (((HO_7.out).1 k_ e_.symm).1) hs_) (fun hn_ => (Kd.fresh' (Kd.R_lt (by (with_reducible repeat (first | apply Kd.R_alloc | apply Kd.R_drewN | apply Kd.R_drew)); exact HO_7.out)) k_ hn_)), Or.elim hk_ (fun hs_ => fun e_ => (((HO_8.out).1 k_ e_.symm).1) hs_) (fun hn_ => (Kd.fresh' (Kd.R_lt (by (with_reducible repeat (first | apply Kd.R_alloc | apply Kd.R_drewN | apply Kd.R_drew)); exact HO_8.out)) k_ hn_))⟩)); have n4_ := Aside0.mk (hb); clear HO_7; clear HO_8; clear aa; clear HB; clear HO_3; have HO_7 := n0_; have HO_8 := n1_; have aa := n2_; have HO250 := n3_; have HB := n4_; clear n0_ n1_ n2_ n3_ n4_; (try clear hb); (try clear hkp); (try clear ho0)))
                go_meet
                case rel => exact ⟨_, (t248), H', ⟨by have := HJ2.out; have := HK2.out; have := HJ22.out; have := HK4.out; have := HK5.out; first | omega | exact Nat.le_refl _⟩, ⟨by (with_reducible repeat (first | apply Kd.R_alloc | apply Kd.R_drewN | apply Kd.R_drew)); exact Kd.R_mono HO250.out (fun _ hk => hk.2)⟩, ⟨by (with_reducible repeat (first | apply Kd.R_alloc | apply Kd.R_drewN | apply Kd.R_drew)); exact Kd.R_mono HO_8.out (fun _ hk => hk.2)⟩, ⟨by (with_reducible repeat (first | refine blk_drewN ?_ _ | refine blk_drew ?_ | refine blk_alloc ?_ _)); exact aa.out⟩, ⟨by repeat (first | (with_reducible first | exact HB.out | apply below_alloc | apply pw_below_drewN | apply below_drew1 | refine below_set ?_ ad.out) | exact HB.out)⟩⟩
               ·rw [if_neg c67] at H
                have c67b0 : decide (0 < (x7_4.length : Int)) = false := decide_eq_false c67
                have c67b1 : decide (0 < x7_4.length) = false := decide_eq_false (by omega)
                clear c67
                (first | rw [c67b0] | rw [c67b1] | (simp only [i64_w]; rw [c67b0]) | skip)
                have H' := Aside0.mk H
                clear H
                go_wp2
                go_meet
                case rel => exact ⟨_, (t233), H', ⟨by have := HJ2.out; have := HK2.out; have := HJ22.out; have := HK4.out; have := HK5.out; first | omega | exact Nat.le_refl _⟩, ⟨by (with_reducible repeat (first | apply Kd.R_alloc | apply Kd.R_drewN | apply Kd.R_drew)); exact Kd.R_mono HO_3.out (fun _ hk => hk.2)⟩, ⟨by (with_reducible repeat (first | apply Kd.R_alloc | apply Kd.R_drewN | apply Kd.R_drew)); exact Kd.R_mono HO_8.out (fun _ hk => hk.1)⟩, ⟨by (with_reducible repeat (first | refine blk_drewN ?_ _ | refine blk_drew ?_ | refine blk_alloc ?_ _)); exact aa.out⟩, ⟨by repeat (first | (with_reducible first | exact HB.out | apply below_alloc | apply pw_below_drewN | apply below_drew1 | refine below_set ?_ ad.out) | exact HB.out)⟩⟩
              case rest =>
               clear HC65
               try clear c1
               try clear c2
               try clear p2
               try clear q2
               try clear hx2
               try clear c3
               try clear c4
               try clear c5
               try clear c6
               try clear p6
               try clear az
               try clear c11b0
               try clear c11b1
               try clear a7
               try clear c16b0
               try clear a9
               try clear c17b0
               try clear ba
               try clear c18b0
               try clear p21
               try clear q21
               try clear hx21
               try clear p23
               try clear q23
               try clear hx23
               try clear p24
               try clear q24
               try clear hx24
               try clear a8
               try clear c28b0
               try clear c36
               try clear bb
               try clear c44b0
               try clear c45
               try clear c45b0
               try clear c46
               try clear c46b0
               try clear c50
               try clear c59
               try clear c59b0
               try clear c60
               try clear c60b0
               try clear c61
               try clear c61b0
               try clear c63
               try clear p64
               try clear c67
               try clear c67b0
               try clear c67b1
               try clear hcz10_0
               try clear hcz10_1
               try clear hcz10_2
               try clear hcz10_3
               try clear hcz10_4
               try clear hcz10_5
               try clear hcz10_6
               try clear hcz12_0
               try clear hcz12_1
               try clear hcz12_2
               try clear hcz12_3
               try clear hcz12_4
               try clear hcz12_5
               try clear hcz12_6
               try clear hcz15_0
               try clear hcz15_1
               try clear hcz15_2
               try clear hcz15_3
               try clear hcz15_4
               try clear hcz15_5
               try clear hcz15_6
               try clear hcz27_0
               try clear hcz27_1
               try clear hcz27_2
               try clear hcz27_3
               try clear hcz27_4
               try clear hcz27_5
               try clear hcz27_6
               try clear hcz31_0
               try clear hcz31_1
               try clear hcz31_2
               try clear hcz31_3
               try clear hcz31_4
               try clear hcz31_5
               try clear hcz31_6
               try clear hcz38_0
               try clear hcz38_1
               try clear hcz38_2
               try clear hcz38_3
               try clear hcz38_4
               try clear hcz38_5
               try clear hcz38_6
               try clear hcz43_0
               try clear hcz43_1
               try clear hcz43_2
               try clear hcz43_3
               try clear hcz43_4
               try clear hcz43_5
               try clear hcz43_6
               try clear hcz51_0
               try clear hcz51_1
               try clear hcz58_0
               try clear hcz58_1
               try clear hcz58_2
               try clear hcz58_3
               try clear hcz58_4
               try clear hcz58_5
               try clear hcz58_6
               try clear hcz5_0
               try clear hcz5_1
               try clear hcz5_2
               try clear hcz5_3
               try clear hcz5_4
               try clear hcz5_5
               try clear hcz5_6
               try clear hfz10_0
               try clear hfz10_1
               try clear hfz10_2
               try clear hfz10_3
               try clear hfz10_4
               try clear hfz10_5
               try clear hfz10_6
               try clear hfz12_0
               try clear hfz12_1
               try clear hfz12_2
               try clear hfz12_3
               try clear hfz12_4
               try clear hfz12_5
               try clear hfz12_6
               try clear hfz15_0
               try clear hfz15_1
               try clear hfz15_2
               try clear hfz15_3
               try clear hfz15_4
               try clear hfz15_5
               try clear hfz15_6
               try clear hfz27_0
               try clear hfz27_1
               try clear hfz27_2
               try clear hfz27_3
               try clear hfz27_4
               try clear hfz27_5
               try clear hfz27_6
               try clear hfz31_0
               try clear hfz31_1
               try clear hfz31_2
               try clear hfz31_3
               try clear hfz31_4
               try clear hfz31_5
               try clear hfz31_6
               try clear hfz38_0
               try clear hfz38_1
               try clear hfz38_2
               try clear hfz38_3
               try clear hfz38_4
               try clear hfz38_5
               try clear hfz38_6
               try clear hfz43_0
               try clear hfz43_1
               try clear hfz43_2
               try clear hfz43_3
               try clear hfz43_4
               try clear hfz43_5
               try clear hfz43_6
               try clear hfz51_0
               try clear hfz51_1
               try clear hfz58_0
               try clear hfz58_1
               try clear hfz58_2
               try clear hfz58_3
               try clear hfz58_4
               try clear hfz58_5
               try clear hfz58_6
               try clear hfz5_0
               try clear hfz5_1
               try clear hfz5_2
               try clear hfz5_3
               try clear hfz5_4
               try clear hfz5_5
               try clear hfz5_6
               try clear hx217_0
               try clear hx236_0
               try clear hx236_1
               try clear hx244_0
               try clear p2
               try clear p21
               try clear p217
               try clear p23
               try clear p236
               try clear p244
               try clear p6
               try clear q2
               try clear q21
               try clear q217
               try clear q23
               try clear q236
               try clear q244
               obtain ⟨kq, x3_64, HA, HJ64, HO_3, HO_8, aa, HB⟩ := hcut
               cases kq with
               | zero => exact absurd HA.out (by simp [wire_attributes.j5])
               | succ kj64 =>
                have H := HA.out
                clear HA
                simp only [wire_attributes.j5] at H
                by_cases c71 : ag > 0
                ·rw [if_pos c71] at H
                 have c71b0 : decide (0 < ag) = true := decide_eq_true c71
                 clear c71
                 replace H := Option.bind_eq_some_iff.mp H
                 obtain ⟨t251, A720, H⟩ := H
                 (try dsimp only at H)
                 have A72 := Aside0.mk A720
                 clear A720
                 replace H := Option.bind_eq_some_iff.mp H
                 obtain ⟨t254, A730, H⟩ := H
                 (try dsimp only at H)
                 have A73 := Aside0.mk A730
                 clear A730
                 by_cases c74 : (x8_5.length : Int) > 0
                 ·rw [if_pos c74] at H
                  have c74b0 : decide (0 < (x8_5.length : Int)) = true := decide_eq_true c74
                  have c74b1 : decide (0 < x8_5.length) = true := decide_eq_true (by omega)
                  clear c74
                  replace H := Option.bind_eq_some_iff.mp H
                  obtain ⟨t257, A750, H⟩ := H
                  replace H : (some t257) = some r := H
                  have A75 := Aside0.mk A750
                  clear A750
                  obtain rfl := Option.some.inj H
                  have hcz76_0 : wc.cell? ⟨ab, 0, none⟩ = some (.int .i64 aj) := (blk_cell aa.out 0).trans rfl
                  have hcz76_1 : wc.cell? ⟨ab, 1, none⟩ = some (.int .i64 ah) := (blk_cell aa.out 1).trans rfl
                  have hcz76_2 : wc.cell? ⟨ab, 2, none⟩ = some (.int .i64 ai) := (blk_cell aa.out 2).trans rfl
                  have hcz76_3 : wc.cell? ⟨ab, 3, none⟩ = some (.slice an ae.length ao) := (blk_cell aa.out 3).trans rfl
                  have hcz76_4 : wc.cell? ⟨ab, 4, none⟩ = some (.slice au ac.length ap) := (blk_cell aa.out 4).trans rfl
                  have hcz76_5 : wc.cell? ⟨ab, 5, none⟩ = some (.int .i64 ag) := (blk_cell aa.out 5).trans rfl
                  have hcz76_6 : wc.cell? ⟨ab, 6, none⟩ = some (.slice aq af.length ar) := (blk_cell aa.out 6).trans rfl
                  have hfz76_0 := blk_frozen aa.out 0
                  have hfz76_1 := blk_frozen aa.out 1
                  have hfz76_2 := blk_frozen aa.out 2
                  have hfz76_3 := blk_frozen aa.out 3
                  have hfz76_4 := blk_frozen aa.out 4
                  have hfz76_5 := blk_frozen aa.out 5
                  have hfz76_6 := blk_frozen aa.out 6
                  go_wp2_with (first | ((with_reducible refine gate_callee (f := 28) rfl ?_); refine goesL_ (some 92) rfl rfl Try.func28 (by kernel_rfl) rfl #[.slice none 0 0, .int .i64 ag, .int .i64 4] rfl (by (try simp only [List.map_toArray, List.map_cons, List.map_nil]); first | done | rfl) ?_; (refine (wire_number.calls kj64 (fun k_ => some k_ = (.slice none 0 0 : Value).ownBlock) (.slice none 0 0) ([] : List Int) ag 4 t251 w _ ?side1 ?side2 A72.out).mono ?_); (case side1 => repeat (first | (with_reducible first | exact HB.out | apply below_alloc | apply pw_below_drewN | apply below_drew1 | refine below_set ?_ ad.out) | exact HB.out)); (case side2 => exact Kd.R_nil _ _ _ _ _); rintro e w77 ⟨v252, rfl, ho0, hb, hkp⟩; refine ⟨_, rfl, ?_⟩; have n0_ := Aside0.mk (Kd.R_mono (ok' := fun k_ => some k_ ≠ (u8 : Value).ownBlock ∧ some k_ ≠ (v252 : Value).ownBlock) (Kd.R_keptB (HO_3.out) hkp (fun k_ hk_ hs_ => (fun e_ => by simp [Value.ownBlock] at e_) hs_)) (fun k_ hk_ => ⟨hk_.1, fun e_ => Or.elim (ho0.1 k_ e_.symm) (fun hs_ => hk_.2.1 hs_) (fun hn_ => Nat.not_le.2 hk_.2.2 hn_)⟩)); have n1_ := Aside0.mk (Kd.R_mono (ok' := fun k_ => some k_ ≠ (u3 : Value).ownBlock ∧ some k_ ≠ (v252 : Value).ownBlock) (Kd.R_keptB (HO_8.out) hkp (fun k_ hk_ hs_ => (fun e_ => by simp [Value.ownBlock] at e_) hs_)) (fun k_ hk_ => ⟨hk_.1, fun e_ => Or.elim (ho0.1 k_ e_.symm) (fun hs_ => hk_.2.1 hs_) (fun hn_ => Nat.not_le.2 hk_.2.2 hn_)⟩)); have n2_ := Aside0.mk (blk_kept (by (with_reducible repeat (first | refine blk_drewN ?_ _ | refine blk_drew ?_ | refine blk_alloc ?_ _)); exact aa.out) hkp (fun hs_ => (fun e_ => by simp [Value.ownBlock] at e_) hs_)); have n3_ := Aside0.mk (Kd.R_mono (ok' := fun k_ => some k_ ≠ (u3 : Value).ownBlock ∧ some k_ ≠ (u8 : Value).ownBlock) ho0 (fun k_ hk_ => ⟨Or.elim hk_ (fun hs_ => absurd hs_ (by simp [Value.ownBlock])) (fun hn_ => (Kd.fresh' (Kd.R_lt (by (with_reducible repeat (first | apply Kd.R_alloc | apply Kd.R_drewN | apply Kd.R_drew)); exact HO_3.out)) k_ hn_)), Or.elim hk_ (fun hs_ => absurd hs_ (by simp [Value.ownBlock])) (fun hn_ => (Kd.fresh' (Kd.R_lt (by (with_reducible repeat (first | apply Kd.R_alloc | apply Kd.R_drewN | apply Kd.R_drew)); exact HO_8.out)) k_ hn_))⟩)); have n4_ := Aside0.mk (hb); clear HO_3; clear HO_8; clear aa; clear HB; have HO_3 := n0_; have HO_8 := n1_; have aa := n2_; have am := n3_; have HB := n4_; clear n0_ n1_ n2_ n3_ n4_; (try clear hb); (try clear hkp); (try clear ho0); obtain ⟨Ao78, co78, eo78⟩ := Kd.R_slice HO_3.out; subst eo78; obtain ⟨Ao79, co79, eo79⟩ := Kd.R_slice am.out; subst eo79) | ((with_reducible refine gate_callee (f := 63) rfl ?_); refine goesL_ (some 93) rfl rfl Try.func63 (by kernel_rfl) rfl #[.slice Ao78 x3_64.length co78, .int .u8 128, .int .u8 9, .slice Ao79 t251.length co79] rfl (by (try simp only [List.map_toArray, List.map_cons, List.map_nil]); first | done | rfl) ?_; (with_reducible refine (wire_one.calls (fun k_ => some k_ = (.slice Ao78 x3_64.length co78 : Value).ownBlock) (.slice Ao78 x3_64.length co78) x3_64 128 9 _ _ t251 t254 w _ ?side1 ?side2 ?side3 ?side4 A73.out).mono ?_); (case side1 => repeat (first | (with_reducible first | exact HB.out | apply below_alloc | apply pw_below_drewN | apply below_drew1 | refine below_set ?_ ad.out) | exact HB.out)); (case side2 | side4 => first | exact Kd.R_tight rfl HO_3.out | exact (Kd.R_reads' am.out).2.1); (case side3 => exact Kd.C_kept_own (am.out) (fun k_ hk_ hs_ => (hk_.1) hs_)); rintro e w80 ⟨v255, rfl, ho0, hb, hkp⟩; refine ⟨_, rfl, ?_⟩; have n0_ := Aside0.mk (Kd.R_mono (ok' := fun k_ => some k_ ≠ (.slice Ao79 t251.length co79 : Value).ownBlock ∧ some k_ ≠ (v255 : Value).ownBlock) (Kd.R_keptB (HO_8.out) hkp (fun k_ hk_ hs_ => (hk_.1) hs_)) (fun k_ hk_ => ⟨hk_.1.2, fun e_ => Or.elim (ho0.1 k_ e_.symm) (fun hs_ => hk_.2.1 hs_) (fun hn_ => Nat.not_le.2 hk_.2.2 hn_)⟩)); have n1_ := Aside0.mk (blk_kept (by (with_reducible repeat (first | refine blk_drewN ?_ _ | refine blk_drew ?_ | refine blk_alloc ?_ _)); exact aa.out) hkp (fun hs_ => (fun e_ => (Kd.R_ne HO_3.out aa.out (by decide)) e_) hs_)); have n2_ := Aside0.mk (Kd.R_mono (ok' := fun k_ => some k_ ≠ (u8 : Value).ownBlock ∧ some k_ ≠ (v255 : Value).ownBlock) (Kd.R_keptB (am.out) hkp (fun k_ hk_ hs_ => (hk_.1) hs_)) (fun k_ hk_ => ⟨hk_.1.2, fun e_ => Or.elim (ho0.1 k_ e_.symm) (fun hs_ => hk_.2.1 hs_) (fun hn_ => Nat.not_le.2 hk_.2.2 hn_)⟩)); have n3_ := Aside0.mk (Kd.R_mono (ok' := fun k_ => some k_ ≠ (u8 : Value).ownBlock ∧ some k_ ≠ (.slice Ao79 t251.length co79 : Value).ownBlock) ho0 (fun k_ hk_ => ⟨Or.elim hk_ (fun hs_ => fun e_ => (((HO_8.out).1 k_ e_.symm).1) hs_) (fun hn_ => (Kd.fresh' (Kd.R_lt (by (with_reducible repeat (first | apply Kd.R_alloc | apply Kd.R_drewN | apply Kd.R_drew)); exact HO_8.out)) k_ hn_)), Or.elim hk_ (fun hs_ => fun e_ => (((am.out).1 k_ e_.symm).1) hs_) (fun hn_ => (Kd.fresh' (Kd.R_lt (by (with_reducible repeat (first | apply Kd.R_alloc | apply Kd.R_drewN | apply Kd.R_drew)); exact am.out)) k_ hn_))⟩)); have n4_ := Aside0.mk (hb); clear HO_8; clear aa; clear am; clear HB; clear HO_3; have HO_8 := n0_; have aa := n1_; have am := n2_; have HO256 := n3_; have HB := n4_; clear n0_ n1_ n2_ n3_ n4_; (try clear hb); (try clear hkp); (try clear ho0); obtain ⟨Ao81, co81, eo81⟩ := Kd.R_slice HO_8.out; subst eo81; obtain ⟨Ao82, co82, eo82⟩ := Kd.R_slice HO256.out; subst eo82) | ((with_reducible refine gate_callee (f := 63) rfl ?_); refine goesL_ (some 99) rfl rfl Try.func63 (by kernel_rfl) rfl #[.slice Ao82 t254.length co82, .int .u8 128, .int .u8 10, .slice Ao81 x8_5.length co81] rfl (by (try simp only [List.map_toArray, List.map_cons, List.map_nil]); first | done | rfl) ?_; (with_reducible refine (wire_one.calls (fun k_ => some k_ = (.slice Ao82 t254.length co82 : Value).ownBlock) (.slice Ao82 t254.length co82) t254 128 10 _ _ x8_5 t257 w _ ?side1 ?side2 ?side3 ?side4 A75.out).mono ?_); (case side1 => repeat (first | (with_reducible first | exact HB.out | apply below_alloc | apply pw_below_drewN | apply below_drew1 | refine below_set ?_ ad.out) | exact HB.out)); (case side2 | side4 => first | exact Kd.R_tight rfl HO256.out | exact (Kd.R_reads' HO_8.out).2.1); (case side3 => exact Kd.C_kept_own (HO_8.out) (fun k_ hk_ hs_ => (hk_.2) hs_)); rintro e w83 ⟨v258, rfl, ho0, hb, hkp⟩; refine ⟨_, rfl, ?_⟩; have n0_ := Aside0.mk (Kd.R_mono (ok' := fun k_ => some k_ ≠ (.slice Ao79 t251.length co79 : Value).ownBlock ∧ some k_ ≠ (v258 : Value).ownBlock) (Kd.R_keptB (HO_8.out) hkp (fun k_ hk_ hs_ => (hk_.2) hs_)) (fun k_ hk_ => ⟨hk_.1.1, fun e_ => Or.elim (ho0.1 k_ e_.symm) (fun hs_ => hk_.2.1 hs_) (fun hn_ => Nat.not_le.2 hk_.2.2 hn_)⟩)); have n1_ := Aside0.mk (blk_kept (by (with_reducible repeat (first | refine blk_drewN ?_ _ | refine blk_drew ?_ | refine blk_alloc ?_ _)); exact aa.out) hkp (fun hs_ => (fun e_ => (Kd.R_ne HO256.out aa.out (by decide)) e_) hs_)); have n2_ := Aside0.mk (Kd.R_mono (ok' := fun k_ => some k_ ≠ (.slice Ao81 x8_5.length co81 : Value).ownBlock ∧ some k_ ≠ (v258 : Value).ownBlock) (Kd.R_keptB (am.out) hkp (fun k_ hk_ hs_ => (hk_.2) hs_)) (fun k_ hk_ => ⟨hk_.1.1, fun e_ => Or.elim (ho0.1 k_ e_.symm) (fun hs_ => hk_.2.1 hs_) (fun hn_ => Nat.not_le.2 hk_.2.2 hn_)⟩)); have n3_ := Aside0.mk (Kd.R_mono (ok' := fun k_ => some k_ ≠ (.slice Ao81 x8_5.length co81 : Value).ownBlock ∧ some k_ ≠ (.slice Ao79 t251.length co79 : Value).ownBlock) ho0 (fun k_ hk_ => ⟨Or.elim hk_ (fun hs_ => fun e_ => (((HO_8.out).1 k_ e_.symm).2) hs_) (fun hn_ => (Kd.fresh' (Kd.R_lt (by (with_reducible repeat (first | apply Kd.R_alloc | apply Kd.R_drewN | apply Kd.R_drew)); exact HO_8.out)) k_ hn_)), Or.elim hk_ (fun hs_ => fun e_ => (((am.out).1 k_ e_.symm).2) hs_) (fun hn_ => (Kd.fresh' (Kd.R_lt (by (with_reducible repeat (first | apply Kd.R_alloc | apply Kd.R_drewN | apply Kd.R_drew)); exact am.out)) k_ hn_))⟩)); have n4_ := Aside0.mk (hb); clear HO_8; clear aa; clear am; clear HB; clear HO256; have HO_8 := n0_; have aa := n1_; have am := n2_; have HO259 := n3_; have HB := n4_; clear n0_ n1_ n2_ n3_ n4_; (try clear hb); (try clear hkp); (try clear ho0)))
                  go_ret
                  exact ⟨_, by first | rfl | (simp [errW_none, errW_some] <;> rfl) | (simp [*, errW_none, errW_some] <;> rfl), by (with_reducible repeat (first | apply Kd.R_alloc | apply Kd.R_drewN | apply Kd.R_drew)); exact Kd.R_mono HO259.out (fun _ hk => trivial), by repeat (first | (with_reducible first | exact HB.out | apply below_alloc | apply pw_below_drewN | apply below_drew1 | refine below_set ?_ ad.out) | exact HB.out)⟩
                 ·rw [if_neg c74] at H
                  have c74b0 : decide (0 < (x8_5.length : Int)) = false := decide_eq_false c74
                  have c74b1 : decide (0 < x8_5.length) = false := decide_eq_false (by omega)
                  clear c74
                  obtain rfl := Option.some.inj H
                  have hcz84_0 : wc.cell? ⟨ab, 0, none⟩ = some (.int .i64 aj) := (blk_cell aa.out 0).trans rfl
                  have hcz84_1 : wc.cell? ⟨ab, 1, none⟩ = some (.int .i64 ah) := (blk_cell aa.out 1).trans rfl
                  have hcz84_2 : wc.cell? ⟨ab, 2, none⟩ = some (.int .i64 ai) := (blk_cell aa.out 2).trans rfl
                  have hcz84_3 : wc.cell? ⟨ab, 3, none⟩ = some (.slice an ae.length ao) := (blk_cell aa.out 3).trans rfl
                  have hcz84_4 : wc.cell? ⟨ab, 4, none⟩ = some (.slice au ac.length ap) := (blk_cell aa.out 4).trans rfl
                  have hcz84_5 : wc.cell? ⟨ab, 5, none⟩ = some (.int .i64 ag) := (blk_cell aa.out 5).trans rfl
                  have hcz84_6 : wc.cell? ⟨ab, 6, none⟩ = some (.slice aq af.length ar) := (blk_cell aa.out 6).trans rfl
                  have hfz84_0 := blk_frozen aa.out 0
                  have hfz84_1 := blk_frozen aa.out 1
                  have hfz84_2 := blk_frozen aa.out 2
                  have hfz84_3 := blk_frozen aa.out 3
                  have hfz84_4 := blk_frozen aa.out 4
                  have hfz84_5 := blk_frozen aa.out 5
                  have hfz84_6 := blk_frozen aa.out 6
                  go_wp2_with (first | ((with_reducible refine gate_callee (f := 28) rfl ?_); refine goesL_ (some 92) rfl rfl Try.func28 (by kernel_rfl) rfl #[.slice none 0 0, .int .i64 ag, .int .i64 4] rfl (by (try simp only [List.map_toArray, List.map_cons, List.map_nil]); first | done | rfl) ?_; (refine (wire_number.calls kj64 (fun k_ => some k_ = (.slice none 0 0 : Value).ownBlock) (.slice none 0 0) ([] : List Int) ag 4 t251 w _ ?side1 ?side2 A72.out).mono ?_); (case side1 => repeat (first | (with_reducible first | exact HB.out | apply below_alloc | apply pw_below_drewN | apply below_drew1 | refine below_set ?_ ad.out) | exact HB.out)); (case side2 => exact Kd.R_nil _ _ _ _ _); rintro e w85 ⟨v252, rfl, ho0, hb, hkp⟩; refine ⟨_, rfl, ?_⟩; have n0_ := Aside0.mk (Kd.R_mono (ok' := fun k_ => some k_ ≠ (u8 : Value).ownBlock ∧ some k_ ≠ (v252 : Value).ownBlock) (Kd.R_keptB (HO_3.out) hkp (fun k_ hk_ hs_ => (fun e_ => by simp [Value.ownBlock] at e_) hs_)) (fun k_ hk_ => ⟨hk_.1, fun e_ => Or.elim (ho0.1 k_ e_.symm) (fun hs_ => hk_.2.1 hs_) (fun hn_ => Nat.not_le.2 hk_.2.2 hn_)⟩)); have n1_ := Aside0.mk (Kd.R_mono (ok' := fun k_ => some k_ ≠ (u3 : Value).ownBlock ∧ some k_ ≠ (v252 : Value).ownBlock) (Kd.R_keptB (HO_8.out) hkp (fun k_ hk_ hs_ => (fun e_ => by simp [Value.ownBlock] at e_) hs_)) (fun k_ hk_ => ⟨hk_.1, fun e_ => Or.elim (ho0.1 k_ e_.symm) (fun hs_ => hk_.2.1 hs_) (fun hn_ => Nat.not_le.2 hk_.2.2 hn_)⟩)); have n2_ := Aside0.mk (blk_kept (by (with_reducible repeat (first | refine blk_drewN ?_ _ | refine blk_drew ?_ | refine blk_alloc ?_ _)); exact aa.out) hkp (fun hs_ => (fun e_ => by simp [Value.ownBlock] at e_) hs_)); have n3_ := Aside0.mk (Kd.R_mono (ok' := fun k_ => some k_ ≠ (u3 : Value).ownBlock ∧ some k_ ≠ (u8 : Value).ownBlock) ho0 (fun k_ hk_ => ⟨Or.elim hk_ (fun hs_ => absurd hs_ (by simp [Value.ownBlock])) (fun hn_ => (Kd.fresh' (Kd.R_lt (by (with_reducible repeat (first | apply Kd.R_alloc | apply Kd.R_drewN | apply Kd.R_drew)); exact HO_3.out)) k_ hn_)), Or.elim hk_ (fun hs_ => absurd hs_ (by simp [Value.ownBlock])) (fun hn_ => (Kd.fresh' (Kd.R_lt (by (with_reducible repeat (first | apply Kd.R_alloc | apply Kd.R_drewN | apply Kd.R_drew)); exact HO_8.out)) k_ hn_))⟩)); have n4_ := Aside0.mk (hb); clear HO_3; clear HO_8; clear aa; clear HB; have HO_3 := n0_; have HO_8 := n1_; have aa := n2_; have am := n3_; have HB := n4_; clear n0_ n1_ n2_ n3_ n4_; (try clear hb); (try clear hkp); (try clear ho0); obtain ⟨Ao86, co86, eo86⟩ := Kd.R_slice HO_3.out; subst eo86; obtain ⟨Ao87, co87, eo87⟩ := Kd.R_slice am.out; subst eo87) | ((with_reducible refine gate_callee (f := 63) rfl ?_); refine goesL_ (some 93) rfl rfl Try.func63 (by kernel_rfl) rfl #[.slice Ao86 x3_64.length co86, .int .u8 128, .int .u8 9, .slice Ao87 t251.length co87] rfl (by (try simp only [List.map_toArray, List.map_cons, List.map_nil]); first | done | rfl) ?_; (with_reducible refine (wire_one.calls (fun k_ => some k_ = (.slice Ao86 x3_64.length co86 : Value).ownBlock) (.slice Ao86 x3_64.length co86) x3_64 128 9 _ _ t251 t254 w _ ?side1 ?side2 ?side3 ?side4 A73.out).mono ?_); (case side1 => repeat (first | (with_reducible first | exact HB.out | apply below_alloc | apply pw_below_drewN | apply below_drew1 | refine below_set ?_ ad.out) | exact HB.out)); (case side2 | side4 => first | exact Kd.R_tight rfl HO_3.out | exact (Kd.R_reads' am.out).2.1); (case side3 => exact Kd.C_kept_own (am.out) (fun k_ hk_ hs_ => (hk_.1) hs_)); rintro e w88 ⟨v255, rfl, ho0, hb, hkp⟩; refine ⟨_, rfl, ?_⟩; have n0_ := Aside0.mk (Kd.R_mono (ok' := fun k_ => some k_ ≠ (.slice Ao87 t251.length co87 : Value).ownBlock ∧ some k_ ≠ (v255 : Value).ownBlock) (Kd.R_keptB (HO_8.out) hkp (fun k_ hk_ hs_ => (hk_.1) hs_)) (fun k_ hk_ => ⟨hk_.1.2, fun e_ => Or.elim (ho0.1 k_ e_.symm) (fun hs_ => hk_.2.1 hs_) (fun hn_ => Nat.not_le.2 hk_.2.2 hn_)⟩)); have n1_ := Aside0.mk (blk_kept (by (with_reducible repeat (first | refine blk_drewN ?_ _ | refine blk_drew ?_ | refine blk_alloc ?_ _)); exact aa.out) hkp (fun hs_ => (fun e_ => (Kd.R_ne HO_3.out aa.out (by decide)) e_) hs_)); have n2_ := Aside0.mk (Kd.R_mono (ok' := fun k_ => some k_ ≠ (u8 : Value).ownBlock ∧ some k_ ≠ (v255 : Value).ownBlock) (Kd.R_keptB (am.out) hkp (fun k_ hk_ hs_ => (hk_.1) hs_)) (fun k_ hk_ => ⟨hk_.1.2, fun e_ => Or.elim (ho0.1 k_ e_.symm) (fun hs_ => hk_.2.1 hs_) (fun hn_ => Nat.not_le.2 hk_.2.2 hn_)⟩)); have n3_ := Aside0.mk (Kd.R_mono (ok' := fun k_ => some k_ ≠ (u8 : Value).ownBlock ∧ some k_ ≠ (.slice Ao87 t251.length co87 : Value).ownBlock) ho0 (fun k_ hk_ => ⟨Or.elim hk_ (fun hs_ => fun e_ => (((HO_8.out).1 k_ e_.symm).1) hs_) (fun hn_ => (Kd.fresh' (Kd.R_lt (by (with_reducible repeat (first | apply Kd.R_alloc | apply Kd.R_drewN | apply Kd.R_drew)); exact HO_8.out)) k_ hn_)), Or.elim hk_ (fun hs_ => fun e_ => (((am.out).1 k_ e_.symm).1) hs_) (fun hn_ => (Kd.fresh' (Kd.R_lt (by (with_reducible repeat (first | apply Kd.R_alloc | apply Kd.R_drewN | apply Kd.R_drew)); exact am.out)) k_ hn_))⟩)); have n4_ := Aside0.mk (hb); clear HO_8; clear aa; clear am; clear HB; clear HO_3; have HO_8 := n0_; have aa := n1_; have am := n2_; have HO256 := n3_; have HB := n4_; clear n0_ n1_ n2_ n3_ n4_; (try clear hb); (try clear hkp); (try clear ho0); obtain ⟨Ao89, co89, eo89⟩ := Kd.R_slice HO_8.out; subst eo89))
                  go_ret
                  exact ⟨_, by first | rfl | (simp [errW_none, errW_some] <;> rfl) | (simp [*, errW_none, errW_some] <;> rfl), by (with_reducible repeat (first | apply Kd.R_alloc | apply Kd.R_drewN | apply Kd.R_drew)); exact Kd.R_mono HO256.out (fun _ hk => trivial), by repeat (first | (with_reducible first | exact HB.out | apply below_alloc | apply pw_below_drewN | apply below_drew1 | refine below_set ?_ ad.out) | exact HB.out)⟩
                ·rw [if_neg c71] at H
                 have c71b0 : decide (0 < ag) = false := decide_eq_false c71
                 clear c71
                 by_cases c90 : (x8_5.length : Int) > 0
                 ·rw [if_pos c90] at H
                  have c90b0 : decide (0 < (x8_5.length : Int)) = true := decide_eq_true c90
                  have c90b1 : decide (0 < x8_5.length) = true := decide_eq_true (by omega)
                  clear c90
                  replace H := Option.bind_eq_some_iff.mp H
                  obtain ⟨t260, A910, H⟩ := H
                  replace H : (some t260) = some r := H
                  have A91 := Aside0.mk A910
                  clear A910
                  obtain rfl := Option.some.inj H
                  have hcz92_0 : wc.cell? ⟨ab, 0, none⟩ = some (.int .i64 aj) := (blk_cell aa.out 0).trans rfl
                  have hcz92_1 : wc.cell? ⟨ab, 1, none⟩ = some (.int .i64 ah) := (blk_cell aa.out 1).trans rfl
                  have hcz92_2 : wc.cell? ⟨ab, 2, none⟩ = some (.int .i64 ai) := (blk_cell aa.out 2).trans rfl
                  have hcz92_3 : wc.cell? ⟨ab, 3, none⟩ = some (.slice an ae.length ao) := (blk_cell aa.out 3).trans rfl
                  have hcz92_4 : wc.cell? ⟨ab, 4, none⟩ = some (.slice au ac.length ap) := (blk_cell aa.out 4).trans rfl
                  have hcz92_5 : wc.cell? ⟨ab, 5, none⟩ = some (.int .i64 ag) := (blk_cell aa.out 5).trans rfl
                  have hcz92_6 : wc.cell? ⟨ab, 6, none⟩ = some (.slice aq af.length ar) := (blk_cell aa.out 6).trans rfl
                  have hfz92_0 := blk_frozen aa.out 0
                  have hfz92_1 := blk_frozen aa.out 1
                  have hfz92_2 := blk_frozen aa.out 2
                  have hfz92_3 := blk_frozen aa.out 3
                  have hfz92_4 := blk_frozen aa.out 4
                  have hfz92_5 := blk_frozen aa.out 5
                  have hfz92_6 := blk_frozen aa.out 6
                  obtain ⟨Ao93, co93, eo93⟩ := Kd.R_slice HO_8.out
                  subst eo93
                  obtain ⟨Ao94, co94, eo94⟩ := Kd.R_slice HO_3.out
                  subst eo94
                  go_wp2_with (first | ((with_reducible refine gate_callee (f := 63) rfl ?_); refine goesL_ (some 99) rfl rfl Try.func63 (by kernel_rfl) rfl #[.slice Ao94 x3_64.length co94, .int .u8 128, .int .u8 10, .slice Ao93 x8_5.length co93] rfl (by (try simp only [List.map_toArray, List.map_cons, List.map_nil]); first | done | rfl) ?_; (with_reducible refine (wire_one.calls (fun k_ => some k_ = (.slice Ao94 x3_64.length co94 : Value).ownBlock) (.slice Ao94 x3_64.length co94) x3_64 128 10 _ _ x8_5 t260 w _ ?side1 ?side2 ?side3 ?side4 A91.out).mono ?_); (case side1 => repeat (first | (with_reducible first | exact HB.out | apply below_alloc | apply pw_below_drewN | apply below_drew1 | refine below_set ?_ ad.out) | exact HB.out)); (case side2 | side4 => first | exact Kd.R_tight rfl HO_3.out | exact (Kd.R_reads' HO_8.out).2.1); (case side3 => exact Kd.C_kept_own (HO_8.out) (fun k_ hk_ hs_ => (hk_) hs_)); rintro e w95 ⟨v261, rfl, ho0, hb, hkp⟩; refine ⟨_, rfl, ?_⟩; have n0_ := Aside0.mk (Kd.R_mono (ok' := fun k_ => some k_ ≠ (v261 : Value).ownBlock) (Kd.R_keptB (HO_8.out) hkp (fun k_ hk_ hs_ => (hk_) hs_)) (fun k_ hk_ => fun e_ => Or.elim (ho0.1 k_ e_.symm) (fun hs_ => hk_.2.1 hs_) (fun hn_ => Nat.not_le.2 hk_.2.2 hn_))); have n1_ := Aside0.mk (blk_kept (by (with_reducible repeat (first | refine blk_drewN ?_ _ | refine blk_drew ?_ | refine blk_alloc ?_ _)); exact aa.out) hkp (fun hs_ => (fun e_ => (Kd.R_ne HO_3.out aa.out (by decide)) e_) hs_)); have n2_ := Aside0.mk (Kd.R_mono (ok' := fun k_ => some k_ ≠ (.slice Ao93 x8_5.length co93 : Value).ownBlock) ho0 (fun k_ hk_ => Or.elim hk_ (fun hs_ => fun e_ => (((HO_8.out).1 k_ e_.symm)) hs_) (fun hn_ => (Kd.fresh' (Kd.R_lt (by (with_reducible repeat (first | apply Kd.R_alloc | apply Kd.R_drewN | apply Kd.R_drew)); exact HO_8.out)) k_ hn_)))); have n3_ := Aside0.mk (hb); clear HO_8; clear aa; clear HB; clear HO_3; have HO_8 := n0_; have aa := n1_; have HO262 := n2_; have HB := n3_; clear n0_ n1_ n2_ n3_; (try clear hb); (try clear hkp); (try clear ho0)))
                  go_ret
                  exact ⟨_, by first | rfl | (simp [errW_none, errW_some] <;> rfl) | (simp [*, errW_none, errW_some] <;> rfl), by (with_reducible repeat (first | apply Kd.R_alloc | apply Kd.R_drewN | apply Kd.R_drew)); exact Kd.R_mono HO262.out (fun _ hk => trivial), by repeat (first | (with_reducible first | exact HB.out | apply below_alloc | apply pw_below_drewN | apply below_drew1 | refine below_set ?_ ad.out) | exact HB.out)⟩
                 ·rw [if_neg c90] at H
                  have c90b0 : decide (0 < (x8_5.length : Int)) = false := decide_eq_false c90
                  have c90b1 : decide (0 < x8_5.length) = false := decide_eq_false (by omega)
                  clear c90
                  obtain rfl := Option.some.inj H
                  have hcz96_0 : wc.cell? ⟨ab, 0, none⟩ = some (.int .i64 aj) := (blk_cell aa.out 0).trans rfl
                  have hcz96_1 : wc.cell? ⟨ab, 1, none⟩ = some (.int .i64 ah) := (blk_cell aa.out 1).trans rfl
                  have hcz96_2 : wc.cell? ⟨ab, 2, none⟩ = some (.int .i64 ai) := (blk_cell aa.out 2).trans rfl
                  have hcz96_3 : wc.cell? ⟨ab, 3, none⟩ = some (.slice an ae.length ao) := (blk_cell aa.out 3).trans rfl
                  have hcz96_4 : wc.cell? ⟨ab, 4, none⟩ = some (.slice au ac.length ap) := (blk_cell aa.out 4).trans rfl
                  have hcz96_5 : wc.cell? ⟨ab, 5, none⟩ = some (.int .i64 ag) := (blk_cell aa.out 5).trans rfl
                  have hcz96_6 : wc.cell? ⟨ab, 6, none⟩ = some (.slice aq af.length ar) := (blk_cell aa.out 6).trans rfl
                  have hfz96_0 := blk_frozen aa.out 0
                  have hfz96_1 := blk_frozen aa.out 1
                  have hfz96_2 := blk_frozen aa.out 2
                  have hfz96_3 := blk_frozen aa.out 3
                  have hfz96_4 := blk_frozen aa.out 4
                  have hfz96_5 := blk_frozen aa.out 5
                  have hfz96_6 := blk_frozen aa.out 6
                  obtain ⟨Ao97, co97, eo97⟩ := Kd.R_slice HO_8.out
                  subst eo97
                  go_wp2
                  go_ret
                  exact ⟨_, by first | rfl | (simp [errW_none, errW_some] <;> rfl) | (simp [*, errW_none, errW_some] <;> rfl), by (with_reducible repeat (first | apply Kd.R_alloc | apply Kd.R_drewN | apply Kd.R_drew)); exact Kd.R_mono HO_3.out (fun _ hk => trivial), by repeat (first | (with_reducible first | exact HB.out | apply below_alloc | apply pw_below_drewN | apply below_drew1 | refine below_set ?_ ad.out) | exact HB.out)⟩

/-- a message with its head -/
def wire_framed.hd (kind : Int) (n : Int) : List Int := List.replicate 16 255 ++ [n / 256 % 256, n % 256] ++ [kind]
def wire_framed.f (kind : Int) (l0 : List Int) : Option (List Int) := if l0.length ≤ 1000000 then some (wire_framed.hd kind (19 + (l0.length : Int)) ++ l0) else none
/-- sixteen bytes of 255, in a block of one's own -/
def wire_framed.Sx (g : Nat) (W : World) : Prop := ∀ j, j < 16 → W.cell? ⟨g, j, none⟩ = some (.int .u8 255)
theorem wire_framed.cellOf {W : World} {g : Nat} {cur : List Value} {t : TypeId} (h : W.heap[g]? = some (.cells cur.toArray t (0, 0))) {j : Nat} {v : Value} (hj : cur[j]? = some v) : W.cell? ⟨g, j, none⟩ = some v := by
  have h1 : cur.toArray[j]? = some v := by simpa using hj
  simp only [World.cell?, h]
  exact h1
theorem wire_framed.src {W : World} {g : Nat} {cur : List Value} {t : TypeId} (h : W.heap[g]? = some (.cells cur.toArray t (0, 0))) {p : Nat} {x : Value} (hx : ∀ j, j < p → cur[j]? = some x) : ∀ j v, (List.replicate p x)[j]? = some v → W.cell? ((⟨g, 0, none⟩ : Addr).add j) = some v := by
  intro j v hj
  rw [List.getElem?_replicate] at hj
  split at hj
  · rename_i hl
    rw [← hj, WideShapes.add_plain, Nat.zero_add]
    exact wire_framed.cellOf h (hx j hl)
  · cases hj
theorem wire_framed.spl {cur : List Value} {p : Nat} {x : Value} (hx : ∀ j, j < p → cur[j]? = some x) (hl : 2 * p ≤ cur.length) : (splice cur p (List.replicate p x)).length = cur.length ∧ ∀ j, j < 2 * p → (splice cur p (List.replicate p x))[j]? = some x := by
  refine ⟨length_splice _ _ _ (by simp; omega), fun j hj => ?_⟩
  unfold splice
  by_cases h1 : j < p
  · rw [List.getElem?_append_left (by simp; omega), List.getElem?_take_of_lt h1]; exact hx j h1
  · rw [List.getElem?_append_right (by simp; omega), List.getElem?_append_left (by simp; omega), List.getElem?_replicate, if_pos (by simp; omega)]
set_option maxHeartbeats 4000000 in
set_option maxRecDepth 100000 in
theorem wire_framed.rep (b c : Nat) (w : World) (hb : w.cell? ⟨b, 0, none⟩ = some (.int .u8 255)) :
    Calls Try.prog 64 #[.slice (some ⟨b, 0, none⟩) 1 c, .int .i64 16] w fun e w' => ∃ g, e = .returned (.slice (some ⟨g, 0, none⟩) 16 16) ∧ w.heap.size ≤ g ∧ wire_framed.Sx g w' ∧ Below w.heap.size w w' := by
  have HMUL := mkHid (fun W => Try.bits_Mul 1 16 (by omega) (by omega) W)
  obtain ⟨cs, hrunM, hle, hmax⟩ := Lib.run_makeNoZero (P := Try.prog) w #[3] 22 5 Try.underlying22 16 (by omega)
  have hcall : (callFunc 87 #[.int .i64 (16 : Int)]).run Try.prog w = .ok (.value (.slice (some ⟨w.heap.size, 0, none⟩) 16 cs.size)) ((w.alloc (.cells cs 5)).drewN 2) := by
    rw [run_callFunc_extern Try.func87 (by kernel_rfl) (by kernel_rfl) (by kernel_rfl) (e := Extern.BytealgMakeNoZero.makeNoZero #[3] #[22]) (by kernel_rfl)]
    show Result.andThen _ _ = _
    rw [show ((16 : Int)) = ((16 : Nat) : Int) from rfl, hrunM]
    rfl
  have i1 : (16 : Int) ≤ (cs.size : Int) := by omega
  have hbl := World.block_lt_of_cell? _ _ hb
  have HG : Hid (((w.alloc (.cells cs 5)).drewN 2).heap[w.heap.size]? = some (.cells cs.toList.toArray 5 (0, 0))) := by
    show (w.alloc (.cells cs 5)).heap[w.heap.size]? = _
    rw [Array.toArray_toList]; exact heap_alloc_new w _
  have HB : Hid (Below w.heap.size w ((w.alloc (.cells cs 5)).drewN 2)) := pw_below_drewN (below_alloc (Below.refl _ _) _) 2
  have HC : Hid (∀ j v, ([.int .u8 255] : List Value)[j]? = some v → ((w.alloc (.cells cs 5)).drewN 2).cell? ((⟨b, 0, none⟩ : Addr).add j) = some v) := by
    intro j v hj
    match j with
    | 0 =>
      simp at hj
      subst hj
      show ((w.alloc (.cells cs 5)).drewN 2).cell? ⟨b, 0, none⟩ = _
      exact pw_cell_below HB.out hb
    | j + 1 => simp at hj
  have HLE := mkHid hle
  clear hrunM hb hle hmax
  go_enter Try.func64, Try.ntmps64
  go_upto_region 17 with (go_at_call 86; refine (HMUL.out _).mono ?_; rintro e w' ⟨rfl, hw⟩; rw [hw]; clear hw)
  go_wp2_with ((refine wpList_copy_splice ?a1 (.tmp 58) (.tmp 59) 22 22 ?a2 5 Try.underlying22 ?a3 (some ⟨w.heap.size, 0, none⟩) (some ⟨b, 0, none⟩) 16 16 1 c ?a4 ?a5 w.heap.size 0 cs.toList 5 ?a6 [.int .u8 255] ?a7 ?a8 ?a9 ?aA w.heap.size w ?aB (Nat.le_refl _) ?_; (case a1 => rfl); (case a2 => rfl); (case a3 => kernel_rfl); (case a4 => rfl); (case a5 => rfl); (case a6 => exact HG.out); (case a7 => rfl); (case a8 => exact fun _ => ⟨rfl, _, rfl, HC.out⟩); (case a9 => (have := HLE.out; simp; omega)); (case aA => simp [Value.oneCell']); (case aB => exact HB.out); intro w2 hg2 hb2))
  have HB2 := mkHid hb2
  clear hb2 HC HG HB HMUL hcall i1
  have HL0 : Hid (16 ≤ (splice cs.toList 0 [Value.int .u8 255]).length) := by
    have := HLE.out
    unfold Hid
    rw [length_splice _ _ _ (by simp; omega)]; simpa using this
  have HX0 : Hid (∀ j, j < 1 → (splice cs.toList 0 [Value.int .u8 255])[j]? = some (.int .u8 255)) := by
    intro j hj
    obtain rfl : j = 0 := by omega
    simp [splice]
  generalize splice cs.toList 0 [Value.int .u8 255] = cur0 at *
  clear HLE
  go_loopg [10] 15 (fun kq v10 wr => ∃ (p : Nat) (cur : List Value), v10 = .int .i64 p ∧ (p = 1 ∨ p = 2 ∨ p = 4 ∨ p = 8 ∨ p = 16) ∧ kq = 16 - p ∧ Hid (16 ≤ cur.length) ∧ Hid (wr.heap[w.heap.size]? = some (.cells cur.toArray 5 (0, 0))) ∧ Hid (∀ j, j < p → cur[j]? = some (.int .u8 255)) ∧ Hid (Below w.heap.size w wr))
  case atStart => exact ⟨1, cur0, rfl, .inl rfl, rfl, HL0.out, hg2, HX0.out, HB2.out⟩
  case round =>
    clear HB2 HL0 HX0 hg2 cur0
    obtain ⟨p, cur, rfl, hp, hkq, HL, HG, HX, HB⟩ := hrel
    rcases hp with rfl | rfl | rfl | rfl | rfl
    · go_upto_region 20 with fail
      have hs1 := wire_framed.src HG.out HX.out
      have HSR := mkHid hs1
      clear hs1
      go_region_law
        ((refine step_copy_splice ?a1 (.tmp 70) (.tmp 73) 22 22 ?a2 5 Try.underlying22 ?a3 (some ⟨w.heap.size, 1, none⟩) (some ⟨w.heap.size, 0, none⟩) 15 15 1 16 ?a4 ?a5 w.heap.size 1 cur 5 ?a6 (List.replicate 1 (.int .u8 255)) ?a7 ?a8 ?a9 ?aA w.heap.size w ?aB (Nat.le_refl _) ?_; (case a1 => rfl); (case a2 => rfl); (case a3 => kernel_rfl); (case a4 => go_simp); (case a5 => go_simp); (case a6 => exact HG.out); (case a7 => rfl); (case a8 => exact fun _ => ⟨rfl, _, rfl, HSR.out⟩); (case a9 => (have := HL.out; simp; omega)); (case aA => simp [Value.oneCell']); (case aB => exact HB.out.drew); intro w3 hg3 hb3))
      all_goals
        obtain ⟨hl, hx⟩ := wire_framed.spl (p := 1) HX.out (by have := HL.out; omega)
        have HB3 := mkHid hb3
        have HX3 := mkHid hx
        have HL3 := mkHid hl
        clear hb3 hx hl
        go_wp2_with fail
        go_roundg 14
        case measure => omega
        case rel => exact ⟨2, _, rfl, by omega, by omega, by have := HL.out; have := HL3.out; unfold Hid; omega, hg3, HX3.out, HB3.out⟩
    · go_upto_region 20 with fail
      have hs2 := wire_framed.src HG.out HX.out
      have HSR := mkHid hs2
      clear hs2
      go_region_law
        ((refine step_copy_splice ?a1 (.tmp 70) (.tmp 73) 22 22 ?a2 5 Try.underlying22 ?a3 (some ⟨w.heap.size, 2, none⟩) (some ⟨w.heap.size, 0, none⟩) 14 14 2 16 ?a4 ?a5 w.heap.size 2 cur 5 ?a6 (List.replicate 2 (.int .u8 255)) ?a7 ?a8 ?a9 ?aA w.heap.size w ?aB (Nat.le_refl _) ?_; (case a1 => rfl); (case a2 => rfl); (case a3 => kernel_rfl); (case a4 => go_simp); (case a5 => go_simp); (case a6 => exact HG.out); (case a7 => rfl); (case a8 => exact fun _ => ⟨rfl, _, rfl, HSR.out⟩); (case a9 => (have := HL.out; simp; omega)); (case aA => simp [Value.oneCell']); (case aB => exact HB.out.drew); intro w3 hg3 hb3))
      all_goals
        obtain ⟨hl, hx⟩ := wire_framed.spl (p := 2) HX.out (by have := HL.out; omega)
        have HB3 := mkHid hb3
        have HX3 := mkHid hx
        have HL3 := mkHid hl
        clear hb3 hx hl
        go_wp2_with fail
        go_roundg 12
        case measure => omega
        case rel => exact ⟨4, _, rfl, by omega, by omega, by have := HL.out; have := HL3.out; unfold Hid; omega, hg3, HX3.out, HB3.out⟩
    · go_upto_region 20 with fail
      have hs4 := wire_framed.src HG.out HX.out
      have HSR := mkHid hs4
      clear hs4
      go_region_law
        ((refine step_copy_splice ?a1 (.tmp 70) (.tmp 73) 22 22 ?a2 5 Try.underlying22 ?a3 (some ⟨w.heap.size, 4, none⟩) (some ⟨w.heap.size, 0, none⟩) 12 12 4 16 ?a4 ?a5 w.heap.size 4 cur 5 ?a6 (List.replicate 4 (.int .u8 255)) ?a7 ?a8 ?a9 ?aA w.heap.size w ?aB (Nat.le_refl _) ?_; (case a1 => rfl); (case a2 => rfl); (case a3 => kernel_rfl); (case a4 => go_simp); (case a5 => go_simp); (case a6 => exact HG.out); (case a7 => rfl); (case a8 => exact fun _ => ⟨rfl, _, rfl, HSR.out⟩); (case a9 => (have := HL.out; simp; omega)); (case aA => simp [Value.oneCell']); (case aB => exact HB.out.drew); intro w3 hg3 hb3))
      all_goals
        obtain ⟨hl, hx⟩ := wire_framed.spl (p := 4) HX.out (by have := HL.out; omega)
        have HB3 := mkHid hb3
        have HX3 := mkHid hx
        have HL3 := mkHid hl
        clear hb3 hx hl
        go_wp2_with fail
        go_roundg 8
        case measure => omega
        case rel => exact ⟨8, _, rfl, by omega, by omega, by have := HL.out; have := HL3.out; unfold Hid; omega, hg3, HX3.out, HB3.out⟩
    · go_upto_region 20 with fail
      have hs8 := wire_framed.src HG.out HX.out
      have HSR := mkHid hs8
      clear hs8
      go_region_law
        ((refine step_copy_splice ?a1 (.tmp 70) (.tmp 73) 22 22 ?a2 5 Try.underlying22 ?a3 (some ⟨w.heap.size, 8, none⟩) (some ⟨w.heap.size, 0, none⟩) 8 8 8 16 ?a4 ?a5 w.heap.size 8 cur 5 ?a6 (List.replicate 8 (.int .u8 255)) ?a7 ?a8 ?a9 ?aA w.heap.size w ?aB (Nat.le_refl _) ?_; (case a1 => rfl); (case a2 => rfl); (case a3 => kernel_rfl); (case a4 => go_simp); (case a5 => go_simp); (case a6 => exact HG.out); (case a7 => rfl); (case a8 => exact fun _ => ⟨rfl, _, rfl, HSR.out⟩); (case a9 => (have := HL.out; simp; omega)); (case aA => simp [Value.oneCell']); (case aB => exact HB.out.drew); intro w3 hg3 hb3))
      all_goals
        obtain ⟨hl, hx⟩ := wire_framed.spl (p := 8) HX.out (by have := HL.out; omega)
        have HB3 := mkHid hb3
        have HX3 := mkHid hx
        have HL3 := mkHid hl
        clear hb3 hx hl
        go_wp2_with fail
        go_roundg 0
        case measure => omega
        case rel => exact ⟨16, _, rfl, by omega, by omega, by have := HL.out; have := HL3.out; unfold Hid; omega, hg3, HX3.out, HB3.out⟩
    · go_wp2_with fail
      go_ret
      refine ⟨w.heap.size, rfl, Nat.le_refl _, fun j hj => wire_framed.cellOf HG.out (HX.out j hj), HB.out⟩
theorem wire_framed.reps (w : World) (xs : List Int) : Reps ((Kd.int .u8).K w) 1 xs (xs.map (Value.int .u8)) := by
  refine ⟨by simp, fun j p hj => ?_⟩
  show ((xs.map (Value.int .u8)).drop (j * 1)).take 1 = [.int .u8 p]
  rw [Nat.mul_one]
  have h2 : (xs.map (Value.int .u8))[j]? = some (.int .u8 p) := by rw [List.getElem?_map, hj]; rfl
  obtain ⟨h3, h4⟩ := List.getElem?_eq_some_iff.1 h2
  rw [List.drop_eq_getElem_cons h3, h4]; rfl
/-- how far the number is written: m bytes of two, behind sixteen -/
def wire_framed.St (g : Nat) (n : Int) (W : World) (m : Nat) (v : Value) (wr : World) : Prop := Below W.heap.size W wr ∧ match m with
  | 0 => v = .slice (some ⟨g, 0, none⟩) 16 16 ∧ wire_framed.Sx g wr
  | 1 => Kd.R (Kd.int .u8) 5 wr W.heap.size (fun _ => True) v (List.replicate 16 255 ++ [n / 256 % 256])
  | _ => Kd.R (Kd.int .u8) 5 wr W.heap.size (fun _ => True) v (List.replicate 16 255 ++ [n / 256 % 256] ++ [n % 256])
theorem wire_framed.info : (Try.prog.info? 5).map (fun i => (i.zero, i.size, i.bytes)) = some (some (.int .u8 0), 1, 1) := by kernel_rfl
set_option maxHeartbeats 4000000 in
set_option maxRecDepth 100000 in
theorem wire_framed.num (g : Nat) (n : Int) (h0 : 0 ≤ n) (h1 : n ≤ 2000000) (W : World) (hs : wire_framed.Sx g W) :
    Calls Try.prog 28 #[.slice (some ⟨g, 0, none⟩) 16 16, .int .i64 n, .int .i64 2] W fun e w' => ∃ v', e = .returned v' ∧ Kd.R (Kd.int .u8) 5 w' W.heap.size (fun _ => True) v' (List.replicate 16 255 ++ [n / 256 % 256] ++ [n % 256]) ∧ Below W.heap.size W w' := by
  obtain ⟨i0, hi, hz0, hz1, hz2⟩ := info_parts wire_framed.info
  have HI := mkHid hi
  have HS := mkHid hs
  clear hs
  go_enter Try.func28, Try.ntmps28
  go_wp2_with fail
  go_loopg [0, 2] 2 (fun kq v0 v2 wr => ∃ (m : Nat), v2 = .int .i64 (1 - (m : Int)) ∧ m ≤ 2 ∧ kq = 2 - m ∧ Hid (wire_framed.St g n W m v0 wr))
  case atStart => exact ⟨0, rfl, by omega, rfl, Below.refl _ _, rfl, HS.out⟩
  case round =>
    clear HS
    obtain ⟨m, rfl, hm, hkq, hst⟩ := hrel
    obtain ⟨hb, hst⟩ := hst.out
    have HB := mkHid hb
    clear hb
    match m, hm with
    | 0, _ =>
      obtain ⟨rfl, hsx⟩ := hst
      have HS := mkHid hsx
      clear hsx
      have hcn : ∀ j u, ([.int .u8 (n / 256 % 256)] : List Value)[j]? = some u → (wr.alloc (.cells #[.int .u8 (n / 256 % 256)] 5)).cell? ((⟨wr.heap.size, 0, none⟩ : Addr).add j) = some u := World.news_of_block (cs := #[.int .u8 (n / 256 % 256)]) (t := 5) (fr := (0, 0)) (heap_alloc_new wr _)
      have HCN := mkHid hcn
      have hco : ∀ b, some (⟨g, 0, none⟩ : Addr) = some b → ∀ j u, (List.replicate 16 (Value.int .u8 255))[j]? = some u → (wr.alloc (.cells #[.int .u8 (n / 256 % 256)] 5)).cell? (b.add j) = some u := by
        intro b hb j u hj
        cases hb
        rw [List.getElem?_replicate] at hj
        split at hj
        · rename_i hl
          rw [← hj, WideShapes.add_plain, Nat.zero_add]
          exact pw_cell_below ((Below.refl _ _).alloc (Nat.le_refl _) _) (HS.out j hl)
        · cases hj
      have HCO := mkHid hco
      have HBA : Hid (Below W.heap.size W (wr.alloc (.cells #[.int .u8 (n / 256 % 256)] 5))) := below_alloc HB.out _
      clear hcn hco
      go_wp2_with (at_builtin; refine wpList_append_grows _ ?a1 (.tmp 13) (.tmp 19) 22 ?a2 5 i0 (.int .u8 0) 1 1 Try.underlying22 HI.out hz0 hz1 hz2 ?a3 ?a4 (some ⟨g, 0, none⟩) 16 16 (List.replicate 16 (Value.int .u8 255)) ?a5 ?a6 ?a7 HCO.out ⟨wr.heap.size, 0, none⟩ 1 1 [.int .u8 (n / 256 % 256)] ?a8 ?a9 HCN.out ?aA ?aB ?aC ?aD ?_; (case a1 => rfl); (case a2 => rfl); (case a3 => rfl); (case a4 => omega); (case a5 => rfl); (case a6 => (intro h; cases h)); (case a7 => rfl); (case a8 => rfl); (case a9 => rfl); (case aA => simp [Value.oneCell']); (case aB => omega); (case aC => (unfold maxLen; omega)); (case aD => omega); intro v1 w1 hown hgrow)
      have HR1 : Hid (Kd.R (Kd.int .u8) 5 w1 W.heap.size (fun _ => True) v1 (List.replicate 16 255 ++ [n / 256 % 256])) := Kd.R_lower (flat_own (w := w1) (fun h _ _ _ => h) hown rfl (wire_framed.reps w1 (List.replicate 16 255 ++ [n / 256 % 256]))) HBA.out.size
      have HB1 : Hid (Below W.heap.size W w1) := pw_below_grown HBA.out none HBA.out.size hgrow (fun _ h => by cases h)
      clear hown hgrow
      go_wp2_with fail
      go_roundg 1
      case measure => omega
      case rel => exact ⟨1, rfl, by omega, rfl, HB1.out, HR1.out⟩
    | 1, _ =>
      have HR := mkHid (show Kd.R (Kd.int .u8) 5 wr W.heap.size (fun _ => True) u0 (List.replicate 16 255 ++ [n / 256 % 256]) from hst)
      clear hst
      go_wp2_with (at_builtin; go_loud (refine Kd.R_append (Kd.int .u8) (w0 := W) W.heap.size ?a1 (.tmp 13) (.tmp 19) 22 5 (.int .u8 0) 1 ?a2 ?a3 ?a4 ?a5 ?a6 ?a7 u0 (List.replicate 16 255 ++ [n / 256 % 256]) (n % 256) [.int .u8 (n % 256)] (fun _ => True) (fun _ => False) ?a8 ?a9 ?aP ?aE ?aF ?aO ?aB ?aS ?aL ?_; (case a1 => rfl); (case a2 => rfl); (case a3 => exact Try.underlying22); (case a4 => exact wire_framed.info); (case a5 => rfl); (case a6 => decide); (case a7 => omega); (case a8 => rfl); (case a9 => rfl); (case aP => exact rfl); (case aE => exact fun _ h => h.elim); (case aF => exact fun _ _ => trivial); (case aO => exact HR.out); (case aB => exact HB.out); (case aS => exact HB.out.size); (case aL => simp); intro v1 w1 hR hB _ _))
      have HR1 := mkHid hR
      have HB1 := mkHid hB
      clear hR hB
      go_wp2_with fail
      go_roundg 0
      case measure => omega
      case rel => exact ⟨2, rfl, by omega, rfl, HB1.out, HR1.out⟩
    | 2, _ =>
      have HR := mkHid (show Kd.R (Kd.int .u8) 5 wr W.heap.size (fun _ => True) u0 (List.replicate 16 255 ++ [n / 256 % 256] ++ [n % 256]) from hst)
      clear hst
      go_wp2_with fail
      go_ret
      exact ⟨_, rfl, HR.out, HB.out⟩
    | m + 3, h => exact absurd h (by omega)
set_option maxHeartbeats 4000000 in
set_option maxRecDepth 100000 in
theorem wire_framed.calls (a0 : Int) (A1 : Option Addr) (c1 : Nat) (l1 : List Int) (r : List Int) (w : World) (hr1 : Kd.C (Kd.int .u8) w A1 l1.length l1) (hc1 : l1.length ≤ c1) (h : wire_framed.f a0 l1 = some r) :
    Calls Try.prog 37 #[.int .u8 a0, .slice A1 l1.length c1] w fun e w' => ∃ v0_ : Value, e = .returned v0_ ∧ Kd.R (Kd.int .u8) 5 w' w.heap.size (fun _ => True) v0_ r ∧ Below w.heap.size w w' := by
  unfold wire_framed.f at h
  split at h
  case isFalse => cases h
  rename_i hl
  obtain rfl := Option.some.inj h
  have HR1 := mkHid hr1
  have HL := mkHid hl
  have hw1 : IntKind.i64.wrap (19 + (l1.length : Int)) = 19 + (l1.length : Int) := IntWalk.i64_in _ (by omega)
  have hw1' : wrap64 (19 + (l1.length : Int)) = 19 + (l1.length : Int) := by rw [← i64_w]; exact hw1
  obtain ⟨n, hn⟩ : ∃ n : Int, n = 19 + (l1.length : Int) := ⟨_, rfl⟩
  rw [← hn] at hw1 hw1' ⊢
  have n0 : 0 ≤ n := by omega
  have n1 : n ≤ 2000000 := by omega
  rw [show IntKind.i64.wrap n = IntKind.i64.wrap (19 + (l1.length : Int)) from by rw [hn]] at hw1
  rw [show wrap64 n = wrap64 (19 + (l1.length : Int)) from by rw [hn]] at hw1'
  have HN := mkHid hn
  clear h hr1 hl hn
  have hb0 : (w.alloc (.cells #[.int .u8 255] 5)).cell? ⟨w.heap.size, 0, none⟩ = some (.int .u8 255) := by go_simp
  have HREP := mkHid (wire_framed.rep w.heap.size 1 (w.alloc (.cells #[.int .u8 255] 5)) hb0)
  clear hb0
  go_enter Try.func37, Try.ntmps37
  go_upto_region 2 with (go_at_call 64; refine HREP.out.mono ?_; rintro e w1 ⟨g, rfl, hg, hs, hb⟩)
  have HB := mkHid (below_step (below_alloc (Below.refl _ _) _) hb)
  have HNUM := mkHid (wire_framed.num g n n0 n1 w1 hs)
  clear hb hs hg HREP
  have hlist : (List.replicate 16 255 ++ [n / 256 % 256] ++ [n % 256]) ++ [a0] = wire_framed.hd a0 n := by unfold wire_framed.hd; simp
  have HLI := mkHid hlist
  have hlen : (wire_framed.hd a0 n).length = 19 := by unfold wire_framed.hd; simp
  have HLN := mkHid hlen
  clear hlist hlen
  go_wp2_with (first | (go_at_call 28; refine HNUM.out.mono ?_; rintro e w2 ⟨v2, rfl, hR, hb⟩; have HRR := mkHid (Kd.R_lower hR HB.out.size); have HB2 := mkHid (below_step HB.out hb); clear hR hb) | (at_builtin; refine Kd.R_append (Kd.int .u8) (w0 := w) w.heap.size ?a1 (.tmp 12) (.tmp 14) 22 5 (.int .u8 0) 1 ?a2 ?a3 ?a4 ?a5 ?a6 ?a7 v2 (List.replicate 16 255 ++ [n / 256 % 256] ++ [n % 256]) a0 [.int .u8 a0] (fun _ => True) (fun _ => False) ?a8 ?a9 ?aP ?aE ?aF ?aO ?aB ?aS ?aL ?_; (case a1 => rfl); (case a2 => rfl); (case a3 => exact Try.underlying22); (case a4 => exact wire_framed.info); (case a5 => rfl); (case a6 => decide); (case a7 => omega); (case a8 => rfl); (case a9 => rfl); (case aP => exact rfl); (case aE => exact fun _ h => h.elim); (case aF => exact fun _ _ => trivial); (case aO => exact HRR.out); (case aB => exact HB2.out); (case aS => exact HB2.out.size); (case aL => simp); intro v3 w3 hR hB _ _; rw [HLI.out] at hR; have HR3 := mkHid hR; have HB3 := mkHid hB; clear hR hB) | (at_builtin; refine Kd.R_append_rows (Kd.int .u8) (w0 := w) w.heap.size ?b1 (.tmp 16) (.tmp 17) 22 5 (.int .u8 0) 1 ?b2 ?b3 ?b4 ?b5 ?b6 ?b7 v3 (wire_framed.hd a0 n) l1 A1 l1.length c1 (fun _ => True) (fun _ => False) ?b8 ?b9 ?aO ?aR (fun _ _ h => h) (fun _ h => h.elim) ?aF ?aB ?aS ?aL ?_; (case b1 => rfl); (case b2 => rfl); (case b3 => exact Try.underlying22); (case b4 => exact wire_framed.info); (case b5 => rfl); (case b6 => decide); (case b7 => omega); (case b8 => rfl); (case b9 => rfl); (case aR => exact Kd.C_below HR1.out HB3.out); (case aB => exact HB3.out); (case aF => exact fun _ _ => trivial); (case aO => exact HR3.out); (case aS => exact HB3.out.size); (case aL => (have := HL.out; have := HLN.out; omega)); intro v4 w4 hR hB _ _; have HR4 := mkHid hR; have HB4 := mkHid hB; clear hR hB))
  go_ret
  exact ⟨_, rfl, HR4.out, HB4.out⟩

end Go.Proofs.Ytjmpojfpbhihpaa.P

end

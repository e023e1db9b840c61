/- Printed by this session's own program (wip/tools/pr.py) out of the translation: functions of the program as plain Lean functions, and that the program's calls come to what these say. -/
import Derived.Test.YtndcjncamdhbfaaPx0
import Derived.Test.YtndcjncamdhbfaaPx2
import Derived.Test.YtndcjncamdhbfaaPx7
import Derived.Test.YtndcjncamdhbfaaPx9
import Derived.Test.YtndcjncamdhbfaaPx15
import Derived.Test.YtndcjncamdhbfaaPx18
import Derived.Test.YtndcjncamdhbfaaPx19
namespace Go.Proofs.Ytndcjncamdhbfaa.P
open Go.RowKit Go.Proofs.YtndcjncamdhbfaaW.PrintWords Go.Proofs.YtndcjncamdhbfaaW.PrintLast Go.Proofs.YtndcjncamdhbfaaW.PrintMore
attribute [local go_sem] max2_int min2_int max_two min_two max_three min_three max_four min_four   -- for this text's walks alone
set_option linter.unusedVariables false
set_option linter.unusedSimpArgs false

attribute [local go_sem high] eqA26
/-! ### whirligiglaw02_PlistBare: function 7 -/
mutual
def whirligiglaw02_PlistBare.j0 : Nat → List (S26) → List (S26) → Bool → Option (Bool)
  | 0, _, _, _ => none
  | k + 1, x0, x5, x55 => if x55 = true then (some false) else (whirligiglaw02_PlistBare.l0 k x0 x5 0 0)
def whirligiglaw02_PlistBare.l0 : Nat → List (S26) → List (S26) → Int → Int → Option (Bool)
  | 0, _, _, _, _ => none
  | k + 1, x0, x5, x11, x12 => if x12 < (x5.length : Int) then (whirligiglaw02_PlistBare.l1 k x0 x5 x11 x12) else ((plist_Bare.f k x5).bind fun bt327 => (if bt327.2 = 0 then ((whirligigref02_Same.f k bt327.1 x5).bind fun t331 => (if t331 = true then ((whirligiglaw02_lives.f k).bind fun t332 => (some t332)) else (some false))) else (some false)))
def whirligiglaw02_PlistBare.l1 : Nat → List (S26) → List (S26) → Int → Int → Option (Bool)
  | 0, _, _, _, _ => none
  | k + 1, x0, x5, x11, x12 => if x11 < (x0.length : Int) then (if 0 ≤ x11 then (if 0 ≤ x12 then (if x12 < (x5.length : Int) then (if ((!(((rd_T26 x0 x11).f0.f0) == ((rd_T26 x5 x12).f0.f0)) || (!(((rd_T26 x0 x11).f0.f1) == ((rd_T26 x5 x12).f0.f1)))) || (!(((rd_T26 x0 x11).f1) == ((rd_T26 x5 x12).f1)) || (!(((rd_T26 x0 x11).f2) == ((rd_T26 x5 x12).f2)) || (!(((rd_T26 x0 x11).f3) == ((rd_T26 x5 x12).f3)))))) = true then (whirligiglaw02_PlistBare.l1 k x0 x5 (wrap64 (x11 + 1)) x12) else ((plist_Idle.f k x5 x12).bind fun bt335 => (if x11 = (x0.length : Int) then (some false) else (if bt335.1 = true then (some false) else (if bt335.2 = 0 then (whirligiglaw02_PlistBare.l0 k x0 x5 (wrap64 (x11 + 1)) (wrap64 (x12 + 1))) else (some false)))))) else (none)) else (none)) else (none)) else ((plist_Idle.f k x5 x12).bind fun bt337 => (if x11 = (x0.length : Int) then (some false) else (if bt337.1 = true then (some false) else (if bt337.2 = 0 then (whirligiglaw02_PlistBare.l0 k x0 x5 (wrap64 (x11 + 1)) (wrap64 (x12 + 1))) else (some false)))))
end
def whirligiglaw02_PlistBare.f (k : Nat) (l0 : List (S26)) (a1_0 : Int) (a1_1 : Int) : Option (Bool) := (plist_Bare.f k l0).bind fun bt316 => ((plist_May.f k l0).bind fun t320 => (if t320 = 0 then ((plist_Lets.f k l0 a1_0 a1_1).bind fun bt323 => ((plist_Lets.f k bt316.1 a1_0 a1_1).bind fun bt325 => (if bt316.2 = 0 then (whirligiglaw02_PlistBare.j0 k l0 bt316.1 (bt323.1 != bt325.1)) else (whirligiglaw02_PlistBare.j0 k l0 bt316.1 true)))) else (if (bt316.1.length : Int) = 0 then ((plist_May.f k l0).bind fun t321 => (if bt316.2 = t321 then ((whirligiglaw02_lives.f k).bind fun t322 => (some t322)) else (some false))) else (some false))))
theorem whirligiglaw02_PlistBare.mono_l : ∀ k, (∀ y0 y1 y2, LeO (whirligiglaw02_PlistBare.j0 k y0 y1 y2) (whirligiglaw02_PlistBare.j0 (k + 1) y0 y1 y2)) ∧ (∀ y0 y1 y2 y3, LeO (whirligiglaw02_PlistBare.l0 k y0 y1 y2 y3) (whirligiglaw02_PlistBare.l0 (k + 1) y0 y1 y2 y3)) ∧ (∀ y0 y1 y2 y3, LeO (whirligiglaw02_PlistBare.l1 k y0 y1 y2 y3) (whirligiglaw02_PlistBare.l1 (k + 1) y0 y1 y2 y3))
  | 0 => ⟨fun _ _ _ r h => by simp [whirligiglaw02_PlistBare.j0] at h, fun _ _ _ _ r h => by simp [whirligiglaw02_PlistBare.l0] at h, fun _ _ _ _ r h => by simp [whirligiglaw02_PlistBare.l1] at h⟩
  | k + 1 => by
    obtain ⟨ih0, ih1, ih2⟩ := whirligiglaw02_PlistBare.mono_l k
    refine ⟨?_, ?_, ?_⟩
    · intro y0 y1 y2
      unfold whirligiglaw02_PlistBare.j0
      repeat' first
      | (with_reducible exact ih0 _ _ _)
      | (with_reducible exact ih1 _ _ _ _)
      | (with_reducible exact ih2 _ _ _ _)
      | (with_reducible exact plist_Bare.mono _ _)
      | (with_reducible exact plist_Idle.mono _ _ _)
      | (with_reducible exact plist_Lets.mono _ _ _ _)
      | (with_reducible exact plist_May.mono _ _)
      | (with_reducible exact whirligiglaw02_lives.mono _)
      | (with_reducible exact whirligigref02_Same.mono _ _ _)
      | (with_reducible exact LeO.refl _)
      | (with_reducible exact LeO.none _)
      | (with_reducible refine LeO.ite ?_ ?_)
      | (with_reducible refine LeO.bind ?_ (fun _ => ?_))
      | exact ih0 _ _ _
      | exact ih1 _ _ _ _
      | exact ih2 _ _ _ _
      | exact plist_Bare.mono _ _
      | exact plist_Idle.mono _ _ _
      | exact plist_Lets.mono _ _ _ _
      | exact plist_May.mono _ _
      | exact whirligiglaw02_lives.mono _
      | exact whirligigref02_Same.mono _ _ _
      | exact LeO.none _
      | refine LeO.ite ?_ ?_
      | refine LeO.bind ?_ (fun _ => ?_)
    · intro y0 y1 y2 y3
      unfold whirligiglaw02_PlistBare.l0
      repeat' first
      | (with_reducible exact ih0 _ _ _)
      | (with_reducible exact ih1 _ _ _ _)
      | (with_reducible exact ih2 _ _ _ _)
      | (with_reducible exact plist_Bare.mono _ _)
      | (with_reducible exact plist_Idle.mono _ _ _)
      | (with_reducible exact plist_Lets.mono _ _ _ _)
      | (with_reducible exact plist_May.mono _ _)
      | (with_reducible exact whirligiglaw02_lives.mono _)
      | (with_reducible exact whirligigref02_Same.mono _ _ _)
      | (with_reducible exact LeO.refl _)
      | (with_reducible exact LeO.none _)
      | (with_reducible refine LeO.ite ?_ ?_)
      | (with_reducible refine LeO.bind ?_ (fun _ => ?_))
      | exact ih0 _ _ _
      | exact ih1 _ _ _ _
      | exact ih2 _ _ _ _
      | exact plist_Bare.mono _ _
      | exact plist_Idle.mono _ _ _
      | exact plist_Lets.mono _ _ _ _
      | exact plist_May.mono _ _
      | exact whirligiglaw02_lives.mono _
      | exact whirligigref02_Same.mono _ _ _
      | exact LeO.none _
      | refine LeO.ite ?_ ?_
      | refine LeO.bind ?_ (fun _ => ?_)
    · intro y0 y1 y2 y3
      unfold whirligiglaw02_PlistBare.l1
      repeat' first
      | (with_reducible exact ih0 _ _ _)
      | (with_reducible exact ih1 _ _ _ _)
      | (with_reducible exact ih2 _ _ _ _)
      | (with_reducible exact plist_Bare.mono _ _)
      | (with_reducible exact plist_Idle.mono _ _ _)
      | (with_reducible exact plist_Lets.mono _ _ _ _)
      | (with_reducible exact plist_May.mono _ _)
      | (with_reducible exact whirligiglaw02_lives.mono _)
      | (with_reducible exact whirligigref02_Same.mono _ _ _)
      | (with_reducible exact LeO.refl _)
      | (with_reducible exact LeO.none _)
      | (with_reducible refine LeO.ite ?_ ?_)
      | (with_reducible refine LeO.bind ?_ (fun _ => ?_))
      | exact ih0 _ _ _
      | exact ih1 _ _ _ _
      | exact ih2 _ _ _ _
      | exact plist_Bare.mono _ _
      | exact plist_Idle.mono _ _ _
      | exact plist_Lets.mono _ _ _ _
      | exact plist_May.mono _ _
      | exact whirligiglaw02_lives.mono _
      | exact whirligigref02_Same.mono _ _ _
      | exact LeO.none _
      | refine LeO.ite ?_ ?_
      | refine LeO.bind ?_ (fun _ => ?_)
theorem whirligiglaw02_PlistBare.mono : ∀ a0 a1 a2 k, LeO (whirligiglaw02_PlistBare.f k a0 a1 a2) (whirligiglaw02_PlistBare.f (k + 1) a0 a1 a2) := by
  intro a0 a1 a2 k
  obtain ⟨ih0, ih1, ih2⟩ := whirligiglaw02_PlistBare.mono_l k
  unfold whirligiglaw02_PlistBare.f
  repeat' first
      | (with_reducible exact ih0 _ _ _)
      | (with_reducible exact ih1 _ _ _ _)
      | (with_reducible exact ih2 _ _ _ _)
      | (with_reducible exact plist_Bare.mono _ _)
      | (with_reducible exact plist_Idle.mono _ _ _)
      | (with_reducible exact plist_Lets.mono _ _ _ _)
      | (with_reducible exact plist_May.mono _ _)
      | (with_reducible exact whirligiglaw02_lives.mono _)
      | (with_reducible exact whirligigref02_Same.mono _ _ _)
      | (with_reducible exact LeO.refl _)
      | (with_reducible exact LeO.none _)
      | (with_reducible refine LeO.ite ?_ ?_)
      | (with_reducible refine LeO.bind ?_ (fun _ => ?_))
      | exact ih0 _ _ _
      | exact ih1 _ _ _ _
      | exact ih2 _ _ _ _
      | exact plist_Bare.mono _ _
      | exact plist_Idle.mono _ _ _
      | exact plist_Lets.mono _ _ _ _
      | exact plist_May.mono _ _
      | exact whirligiglaw02_lives.mono _
      | exact whirligigref02_Same.mono _ _ _
      | exact LeO.none _
      | refine LeO.ite ?_ ?_
      | refine LeO.bind ?_ (fun _ => ?_)
theorem kcdf8.q {w W W' : World} {g : Nat} {o : Obj} (h : w.heap[g]? = some o) (hb : Below W.heap.size W W') (e : W.heap = w.heap) : W'.heap[g]? = some o := blk_below (e ▸ h) hb
theorem kcdf8.z {w0 w W W' : World} (h : Below w0.heap.size w0 w) (hb : Below W.heap.size W W') (e : W.heap = w.heap) (e1 : W.os = w.os) (e2 : W.tape = w.tape) (e3 : W.output = w.output) : Below w0.heap.size w0 W' := below_step ⟨e1.trans h.os, e2.trans h.tape, e3.trans h.output, e ▸ h.size, fun k hk => by rw [e]; exact h.block k hk⟩ hb
set_option maxHeartbeats 8000000 in
set_option maxRecDepth 100000 in
theorem whirligiglaw02_PlistBare.calls (k : Nat) (A0 : Option Addr) (c0 : Nat) (l0 : List (S26)) (af : Int) (ag : Int) (r : Bool) (w : World) (hr0 : Kd.C k26 w A0 l0.length l0) (hc0 : l0.length ≤ c0) (h : whirligiglaw02_PlistBare.f k l0 af ag = some r) :
  Calls Try.prog 7 #[.slice A0 l0.length c0, .agg #[.int .u32 af, .int .i64 ag]] w fun e w' => e = .returned (.bool r) ∧ Below w.heap.size w w' := by
 have hu24 := Try.underlying24
 have hu26 := Try.underlying26
 have ah := Aside0.mk hr0
 have ak := Aside0.mk hc0
 clear hr0 hc0
 have HB := Aside0.mk (Below.refl w.heap.size w)
 have H := h
 unfold whirligiglaw02_PlistBare.f at H
 clear h
 replace H := Option.bind_eq_some_iff.mp H
 obtain ⟨⟨t316, t317⟩, A30, H⟩ := H
 (try dsimp only at H)
 have A3 := Aside0.mk A30
 clear A30
 replace H := Option.bind_eq_some_iff.mp H
 obtain ⟨t320, A40, H⟩ := H
 (try dsimp only at H)
 have A4 := Aside0.mk A40
 clear A40
 by_cases c5 : t320 = 0
 ·rw [if_pos c5] at H
  have c5b0 : (t320 == 0) = true := beq_iff_eq.mpr c5
  have c5b1 : (t320 != 0) = false := bne_eq_false_iff_eq.mpr c5
  clear c5
  replace H := Option.bind_eq_some_iff.mp H
  obtain ⟨⟨t323, t324⟩, A60, H⟩ := H
  (try dsimp only at H)
  have A6 := Aside0.mk A60
  clear A60
  replace H := Option.bind_eq_some_iff.mp H
  obtain ⟨⟨t325, t326⟩, A70, H⟩ := H
  (try dsimp only at H)
  have A7 := Aside0.mk A70
  clear A70
  have HC8 := Aside0.mk H
  clear H
  go_enter Try.func7, Try.ntmps7
  go_upto_region 6 with (first | ((with_reducible refine gate_dst (N := 3) rfl ?_); refine box_event ?hg (N := 3) ?hd (cs := #[.int .u32 af, .int .i64 ag]) (t := 24) ?hr ?_; (case hd => rfl); (case hg => rfl); (case hr => first | (go_simp; done) | (go_simp; rfl)); intro ac hg w9 hbox hb; have n0_ := Aside0.mk (kcdf8.z HB.out hb rfl rfl rfl rfl); have n1_ := Aside0.mk (hbox); have n2_ := Aside0.mk ((by rw [hg]; exact (below_size (by repeat (first | (with_reducible first | exact HB.out | apply below_alloc | apply pw_below_drewN | apply below_drew1) | exact HB.out))) : w.heap.size ≤ ac)); have n3_ := Aside0.mk ((by rw [hg]; exact (below_size (by repeat (first | (with_reducible first | exact HB.out | apply below_alloc | apply pw_below_drewN | apply below_drew1) | exact HB.out))) : w.heap.size ≤ ac)); clear HB; have HB := n0_; have aa := n1_; have ai := n2_; have aj := n3_; clear n0_ n1_ n2_ n3_; clear hb hbox hg) | (go_at_call 24; (with_reducible refine (plist_Bare.calls k _ _ l0 t316 t317 _ ?side1 ?side2 A3.out).mono ?_); (case side1 => repeat (first | exact (Kd.C_below ah.out HB.out) | (with_reducible refine Kd.C_alloc ?_ _) | (with_reducible refine Kd.C_drewN ?_ _) | (with_reducible refine Kd.C_drew ?_))); (case side2 => exact ak.out); rintro e w10 ⟨v318, rfl, ho0, hb⟩; have ab := Aside0.mk (Kd.R_lower ho0 (below_size (by repeat (first | (with_reducible first | exact HB.out | apply below_alloc | apply pw_below_drewN | apply below_drew1) | exact HB.out)))); replace aa := Aside0.mk (kcdf8.q aa.out hb rfl); replace HB := Aside0.mk (kcdf8.z HB.out hb rfl rfl rfl rfl); (try clear hb); (try clear ae); (try clear hk); (try clear hi); (try clear ho0)) | (go_at_call 15; (with_reducible refine (plist_May.calls k _ _ l0 t320 _ ?side1 ?side2 A4.out).mono ?_); (case side1 => repeat (first | exact (Kd.C_below ah.out HB.out) | (with_reducible refine Kd.C_alloc ?_ _) | (with_reducible refine Kd.C_drewN ?_ _) | (with_reducible refine Kd.C_drew ?_))); (case side2 => exact ak.out); rintro e w11 ⟨rfl, hb⟩; replace ab := Aside0.mk (Kd.R_below (by (with_reducible repeat (first | apply Kd.R_alloc | apply Kd.R_drewN | apply Kd.R_drew)); exact ab.out) hb); replace aa := Aside0.mk (kcdf8.q aa.out hb rfl); replace HB := Aside0.mk (kcdf8.z HB.out hb rfl rfl rfl rfl); (try clear hb); (try clear ae); (try clear hk); (try clear hi); have hcz12_0 : w11.cell? ⟨ac, 0, none⟩ = some (.int .u32 af) := (blk_cell aa.out 0).trans rfl; have hcz12_1 : w11.cell? ⟨ac, 1, none⟩ = some (.int .i64 ag) := (blk_cell aa.out 1).trans rfl; have hfz12_0 := blk_frozen aa.out 0; have hfz12_1 := blk_frozen aa.out 1) | (go_at_call 13; (with_reducible refine (plist_Lets.calls k _ _ l0 af ag t323 t324 _ ?side1 ?side2 A6.out).mono ?_); (case side1 => repeat (first | exact (Kd.C_below ah.out HB.out) | (with_reducible refine Kd.C_alloc ?_ _) | (with_reducible refine Kd.C_drewN ?_ _) | (with_reducible refine Kd.C_drew ?_))); (case side2 => exact ak.out); rintro e w13 ⟨rfl, hb⟩; replace ab := Aside0.mk (Kd.R_below (by (with_reducible repeat (first | apply Kd.R_alloc | apply Kd.R_drewN | apply Kd.R_drew)); exact ab.out) hb); replace aa := Aside0.mk (kcdf8.q aa.out hb rfl); replace HB := Aside0.mk (kcdf8.z HB.out hb rfl rfl rfl rfl); (try clear hb); (try clear ae); (try clear hk); (try clear hi); have hcz14_0 : w13.cell? ⟨ac, 0, none⟩ = some (.int .u32 af) := (blk_cell aa.out 0).trans rfl; have hcz14_1 : w13.cell? ⟨ac, 1, none⟩ = some (.int .i64 ag) := (blk_cell aa.out 1).trans rfl; have hfz14_0 := blk_frozen aa.out 0; have hfz14_1 := blk_frozen aa.out 1; obtain ⟨Ao15, co15, eo15⟩ := Kd.R_slice ab.out; subst eo15) | (go_at_call 13; (with_reducible refine (plist_Lets.calls k _ _ t316 af ag t325 t326 _ ?side1 ?side2 A7.out).mono ?_); (case side1 => repeat (first | exact (Kd.R_reads' ab.out).2.2 | (with_reducible refine Kd.C_alloc ?_ _) | (with_reducible refine Kd.C_drewN ?_ _) | (with_reducible refine Kd.C_drew ?_))); (case side2 => exact (Kd.R_reads' ab.out).2.1); rintro e w16 ⟨rfl, hb⟩; replace ab := Aside0.mk (Kd.R_below (by (with_reducible repeat (first | apply Kd.R_alloc | apply Kd.R_drewN | apply Kd.R_drew)); exact ab.out) hb); replace aa := Aside0.mk (kcdf8.q aa.out hb rfl); replace HB := Aside0.mk (kcdf8.z HB.out hb rfl rfl rfl rfl); (try clear hb); (try clear ae); (try clear hk); (try clear hi)))
  repeat (go_quiet (first | ((with_reducible refine gate_dst (N := 3) rfl ?_); refine box_event ?hg (N := 3) ?hd (cs := #[.int .u32 af, .int .i64 ag]) (t := 24) ?hr ?_; (case hd => rfl); (case hg => rfl); (case hr => first | (go_simp; done) | (go_simp; rfl)); intro ac hg w9 hbox hb; have n0_ := Aside0.mk (kcdf8.z HB.out hb rfl rfl rfl rfl); have n1_ := Aside0.mk (hbox); have n2_ := Aside0.mk ((by rw [hg]; exact (below_size (by repeat (first | (with_reducible first | exact HB.out | apply below_alloc | apply pw_below_drewN | apply below_drew1) | exact HB.out))) : w.heap.size ≤ ac)); have n3_ := Aside0.mk ((by rw [hg]; exact (below_size (by repeat (first | (with_reducible first | exact HB.out | apply below_alloc | apply pw_below_drewN | apply below_drew1) | exact HB.out))) : w.heap.size ≤ ac)); clear HB; have HB := n0_; have aa := n1_; have ai := n2_; have aj := n3_; clear n0_ n1_ n2_ n3_; clear hb hbox hg) | (go_at_call 24; (with_reducible refine (plist_Bare.calls k _ _ l0 t316 t317 _ ?side1 ?side2 A3.out).mono ?_); (case side1 => repeat (first | exact (Kd.C_below ah.out HB.out) | (with_reducible refine Kd.C_alloc ?_ _) | (with_reducible refine Kd.C_drewN ?_ _) | (with_reducible refine Kd.C_drew ?_))); (case side2 => exact ak.out); rintro e w10 ⟨v318, rfl, ho0, hb⟩; have ab := Aside0.mk (Kd.R_lower ho0 (below_size (by repeat (first | (with_reducible first | exact HB.out | apply below_alloc | apply pw_below_drewN | apply below_drew1) | exact HB.out)))); replace aa := Aside0.mk (kcdf8.q aa.out hb rfl); replace HB := Aside0.mk (kcdf8.z HB.out hb rfl rfl rfl rfl); (try clear hb); (try clear ae); (try clear hk); (try clear hi); (try clear ho0)) | (go_at_call 15; (with_reducible refine (plist_May.calls k _ _ l0 t320 _ ?side1 ?side2 A4.out).mono ?_); (case side1 => repeat (first | exact (Kd.C_below ah.out HB.out) | (with_reducible refine Kd.C_alloc ?_ _) | (with_reducible refine Kd.C_drewN ?_ _) | (with_reducible refine Kd.C_drew ?_))); (case side2 => exact ak.out); rintro e w11 ⟨rfl, hb⟩; replace ab := Aside0.mk (Kd.R_below (by (with_reducible repeat (first | apply Kd.R_alloc | apply Kd.R_drewN | apply Kd.R_drew)); exact ab.out) hb); replace aa := Aside0.mk (kcdf8.q aa.out hb rfl); replace HB := Aside0.mk (kcdf8.z HB.out hb rfl rfl rfl rfl); (try clear hb); (try clear ae); (try clear hk); (try clear hi); have hcz12_0 : w11.cell? ⟨ac, 0, none⟩ = some (.int .u32 af) := (blk_cell aa.out 0).trans rfl; have hcz12_1 : w11.cell? ⟨ac, 1, none⟩ = some (.int .i64 ag) := (blk_cell aa.out 1).trans rfl; have hfz12_0 := blk_frozen aa.out 0; have hfz12_1 := blk_frozen aa.out 1) | (go_at_call 13; (with_reducible refine (plist_Lets.calls k _ _ l0 af ag t323 t324 _ ?side1 ?side2 A6.out).mono ?_); (case side1 => repeat (first | exact (Kd.C_below ah.out HB.out) | (with_reducible refine Kd.C_alloc ?_ _) | (with_reducible refine Kd.C_drewN ?_ _) | (with_reducible refine Kd.C_drew ?_))); (case side2 => exact ak.out); rintro e w13 ⟨rfl, hb⟩; replace ab := Aside0.mk (Kd.R_below (by (with_reducible repeat (first | apply Kd.R_alloc | apply Kd.R_drewN | apply Kd.R_drew)); exact ab.out) hb); replace aa := Aside0.mk (kcdf8.q aa.out hb rfl); replace HB := Aside0.mk (kcdf8.z HB.out hb rfl rfl rfl rfl); (try clear hb); (try clear ae); (try clear hk); (try clear hi); have hcz14_0 : w13.cell? ⟨ac, 0, none⟩ = some (.int .u32 af) := (blk_cell aa.out 0).trans rfl; have hcz14_1 : w13.cell? ⟨ac, 1, none⟩ = some (.int .i64 ag) := (blk_cell aa.out 1).trans rfl; have hfz14_0 := blk_frozen aa.out 0; have hfz14_1 := blk_frozen aa.out 1; obtain ⟨Ao15, co15, eo15⟩ := Kd.R_slice ab.out; subst eo15) | (go_at_call 13; (with_reducible refine (plist_Lets.calls k _ _ t316 af ag t325 t326 _ ?side1 ?side2 A7.out).mono ?_); (case side1 => repeat (first | exact (Kd.R_reads' ab.out).2.2 | (with_reducible refine Kd.C_alloc ?_ _) | (with_reducible refine Kd.C_drewN ?_ _) | (with_reducible refine Kd.C_drew ?_))); (case side2 => exact (Kd.R_reads' ab.out).2.1); rintro e w16 ⟨rfl, hb⟩; replace ab := Aside0.mk (Kd.R_below (by (with_reducible repeat (first | apply Kd.R_alloc | apply Kd.R_drewN | apply Kd.R_drew)); exact ab.out) hb); replace aa := Aside0.mk (kcdf8.q aa.out hb rfl); replace HB := Aside0.mk (kcdf8.z HB.out hb rfl rfl rfl rfl); (try clear hb); (try clear ae); (try clear hk); (try clear hi))); go_upto_region 6 with (first | ((with_reducible refine gate_dst (N := 3) rfl ?_); refine box_event ?hg (N := 3) ?hd (cs := #[.int .u32 af, .int .i64 ag]) (t := 24) ?hr ?_; (case hd => rfl); (case hg => rfl); (case hr => first | (go_simp; done) | (go_simp; rfl)); intro ac hg w9 hbox hb; have n0_ := Aside0.mk (kcdf8.z HB.out hb rfl rfl rfl rfl); have n1_ := Aside0.mk (hbox); have n2_ := Aside0.mk ((by rw [hg]; exact (below_size (by repeat (first | (with_reducible first | exact HB.out | apply below_alloc | apply pw_below_drewN | apply below_drew1) | exact HB.out))) : w.heap.size ≤ ac)); have n3_ := Aside0.mk ((by rw [hg]; exact (below_size (by repeat (first | (with_reducible first | exact HB.out | apply below_alloc | apply pw_below_drewN | apply below_drew1) | exact HB.out))) : w.heap.size ≤ ac)); clear HB; have HB := n0_; have aa := n1_; have ai := n2_; have aj := n3_; clear n0_ n1_ n2_ n3_; clear hb hbox hg) | (go_at_call 24; (with_reducible refine (plist_Bare.calls k _ _ l0 t316 t317 _ ?side1 ?side2 A3.out).mono ?_); (case side1 => repeat (first | exact (Kd.C_below ah.out HB.out) | (with_reducible refine Kd.C_alloc ?_ _) | (with_reducible refine Kd.C_drewN ?_ _) | (with_reducible refine Kd.C_drew ?_))); (case side2 => exact ak.out); rintro e w10 ⟨v318, rfl, ho0, hb⟩; have ab := Aside0.mk (Kd.R_lower ho0 (below_size (by repeat (first | (with_reducible first | exact HB.out | apply below_alloc | apply pw_below_drewN | apply below_drew1) | exact HB.out)))); replace aa := Aside0.mk (kcdf8.q aa.out hb rfl); replace HB := Aside0.mk (kcdf8.z HB.out hb rfl rfl rfl rfl); (try clear hb); (try clear ae); (try clear hk); (try clear hi); (try clear ho0)) | (go_at_call 15; (with_reducible refine (plist_May.calls k _ _ l0 t320 _ ?side1 ?side2 A4.out).mono ?_); (case side1 => repeat (first | exact (Kd.C_below ah.out HB.out) | (with_reducible refine Kd.C_alloc ?_ _) | (with_reducible refine Kd.C_drewN ?_ _) | (with_reducible refine Kd.C_drew ?_))); (case side2 => exact ak.out); rintro e w11 ⟨rfl, hb⟩; replace ab := Aside0.mk (Kd.R_below (by (with_reducible repeat (first | apply Kd.R_alloc | apply Kd.R_drewN | apply Kd.R_drew)); exact ab.out) hb); replace aa := Aside0.mk (kcdf8.q aa.out hb rfl); replace HB := Aside0.mk (kcdf8.z HB.out hb rfl rfl rfl rfl); (try clear hb); (try clear ae); (try clear hk); (try clear hi); have hcz12_0 : w11.cell? ⟨ac, 0, none⟩ = some (.int .u32 af) := (blk_cell aa.out 0).trans rfl; have hcz12_1 : w11.cell? ⟨ac, 1, none⟩ = some (.int .i64 ag) := (blk_cell aa.out 1).trans rfl; have hfz12_0 := blk_frozen aa.out 0; have hfz12_1 := blk_frozen aa.out 1) | (go_at_call 13; (with_reducible refine (plist_Lets.calls k _ _ l0 af ag t323 t324 _ ?side1 ?side2 A6.out).mono ?_); (case side1 => repeat (first | exact (Kd.C_below ah.out HB.out) | (with_reducible refine Kd.C_alloc ?_ _) | (with_reducible refine Kd.C_drewN ?_ _) | (with_reducible refine Kd.C_drew ?_))); (case side2 => exact ak.out); rintro e w13 ⟨rfl, hb⟩; replace ab := Aside0.mk (Kd.R_below (by (with_reducible repeat (first | apply Kd.R_alloc | apply Kd.R_drewN | apply Kd.R_drew)); exact ab.out) hb); replace aa := Aside0.mk (kcdf8.q aa.out hb rfl); replace HB := Aside0.mk (kcdf8.z HB.out hb rfl rfl rfl rfl); (try clear hb); (try clear ae); (try clear hk); (try clear hi); have hcz14_0 : w13.cell? ⟨ac, 0, none⟩ = some (.int .u32 af) := (blk_cell aa.out 0).trans rfl; have hcz14_1 : w13.cell? ⟨ac, 1, none⟩ = some (.int .i64 ag) := (blk_cell aa.out 1).trans rfl; have hfz14_0 := blk_frozen aa.out 0; have hfz14_1 := blk_frozen aa.out 1; obtain ⟨Ao15, co15, eo15⟩ := Kd.R_slice ab.out; subst eo15) | (go_at_call 13; (with_reducible refine (plist_Lets.calls k _ _ t316 af ag t325 t326 _ ?side1 ?side2 A7.out).mono ?_); (case side1 => repeat (first | exact (Kd.R_reads' ab.out).2.2 | (with_reducible refine Kd.C_alloc ?_ _) | (with_reducible refine Kd.C_drewN ?_ _) | (with_reducible refine Kd.C_drew ?_))); (case side2 => exact (Kd.R_reads' ab.out).2.1); rintro e w16 ⟨rfl, hb⟩; replace ab := Aside0.mk (Kd.R_below (by (with_reducible repeat (first | apply Kd.R_alloc | apply Kd.R_drewN | apply Kd.R_drew)); exact ab.out) hb); replace aa := Aside0.mk (kcdf8.q aa.out hb rfl); replace HB := Aside0.mk (kcdf8.z HB.out hb rfl rfl rfl rfl); (try clear hb); (try clear ae); (try clear hk); (try clear hi))))
  (try simp only [Act.put, List.setIfInBounds_toArray, List.set_cons_zero, List.set_cons_succ])
  go_cut [55] (fun v55 wc => ∃ (kq : Nat) (x55_7 : Bool), v55 = .bool x55_7 ∧ Aside0 (whirligiglaw02_PlistBare.j0 kq l0 t316 x55_7 = some r) ∧ Aside0 (kq ≤ k) ∧ Aside0 (Kd.R k26 26 wc w.heap.size (fun _ => True) (.slice Ao15 t316.length co15) t316) ∧ Aside0 (wc.heap[ac]? = some (.cells #[.int .u32 af, .int .i64 ag] 24 (0, 0))) ∧ Aside0 (Below w.heap.size w wc))
  case first =>
   have H := HC8.out
   clear HC8
   by_cases an : t317 = 0
   ·rw [if_pos an] at H
    have c17b0 : (t317 == 0) = true := beq_iff_eq.mpr an
    have c17b1 : (t317 != 0) = false := bne_eq_false_iff_eq.mpr an
    clear an
    (first | rw [c17b0] | (simp only [i64_w]; rw [c17b0]) | skip)
    have H' := Aside0.mk H
    clear H
    go_wp2
    repeat (go_quiet (fail); try go_wp2)
    go_meet
    case rel => exact ⟨_, ((t323 != t325)), (by first | rfl | (simp; done) | (simp [*]; done)), H', ⟨by first | omega | exact Nat.le_refl _⟩, ⟨by (with_reducible repeat (first | apply Kd.R_alloc | apply Kd.R_drewN | apply Kd.R_drew)); exact ab.out⟩, ⟨by (with_reducible repeat (first | refine blk_drewN ?_ _ | refine blk_drew ?_ | refine blk_alloc ?_ _)); exact aa.out⟩, ⟨by repeat (first | (with_reducible first | exact HB.out | apply below_alloc | apply pw_below_drewN | apply below_drew1) | exact HB.out)⟩⟩
   ·rw [if_neg an] at H
    have c17b0 : (t317 == 0) = false := beq_eq_false_iff_ne.mpr an
    have c17b1 : (t317 != 0) = true := bne_iff_ne.mpr an
    (first | rw [c17b0] | (simp only [i64_w]; rw [c17b0]) | skip)
    have H' := Aside0.mk H
    clear H
    go_wp2
    repeat (go_quiet (fail); try go_wp2)
    go_meet
    case rel => exact ⟨_, (true), (by first | rfl | (simp; done) | (simp [*]; done)), H', ⟨by first | omega | exact Nat.le_refl _⟩, ⟨by (with_reducible repeat (first | apply Kd.R_alloc | apply Kd.R_drewN | apply Kd.R_drew)); exact ab.out⟩, ⟨by (with_reducible repeat (first | refine blk_drewN ?_ _ | refine blk_drew ?_ | refine blk_alloc ?_ _)); exact aa.out⟩, ⟨by repeat (first | (with_reducible first | exact HB.out | apply below_alloc | apply pw_below_drewN | apply below_drew1) | exact HB.out)⟩⟩
  case rest =>
   clear HC8
   try clear c1
   try clear p2
   try clear c5
   try clear c5b0
   try clear c5b1
   try clear c7
   try clear an
   try clear c17b0
   try clear c17b1
   try clear hcz12_0
   try clear hcz12_1
   try clear hcz14_0
   try clear hcz14_1
   try clear hfz12_0
   try clear hfz12_1
   try clear hfz14_0
   try clear hfz14_1
   obtain ⟨kq, x55_7, rfl, HA, HJ7, HO_5, aa, HB⟩ := hcut
   cases kq with
   | zero => exact absurd HA.out (by simp [whirligiglaw02_PlistBare.j0])
   | succ kj7 =>
    have H := HA.out
    clear HA
    simp only [whirligiglaw02_PlistBare.j0] at H
    by_cases c18 : x55_7 = true
    ·subst c18
     have H1 : (some false) = some r := by rw [if_pos rfl] at H; exact H
     clear H
     have H := H1
     clear H1
     obtain rfl := Option.some.inj H
     go_wp2
     repeat (go_quiet (fail); try go_wp2)
     go_ret
     exact ⟨by first | rfl | (simp [errW_none, errW_some] <;> rfl) | (simp [*, errW_none, errW_some] <;> rfl), by repeat (first | (with_reducible first | exact HB.out | apply below_alloc | apply pw_below_drewN | apply below_drew1) | exact HB.out)⟩
    ·replace c18 := Bool.eq_false_iff.mpr c18
     subst c18
     have H1 : (whirligiglaw02_PlistBare.l0 kj7 l0 t316 0 0) = some r := by rw [if_neg (show ¬ (false = true) by decide)] at H; exact H
     clear H
     have H := H1
     clear H1
     have H' := Aside0.mk H
     clear H
     go_wp2
     repeat (go_quiet (fail); try go_wp2)
     go_loopg [11, 12] kj7 (fun kq v11 v12 w' => ∃ (x11_2 : Int) (x12_2 : Int), v11 = .int .i64 x11_2 ∧ v12 = .int .i64 x12_2 ∧ Aside0 (whirligiglaw02_PlistBare.l0 kq l0 t316 x11_2 x12_2 = some r) ∧ Aside0 (kq ≤ kj7) ∧ Aside0 (Kd.R k26 26 w' w.heap.size (fun _ => True) (.slice Ao15 t316.length co15) t316) ∧ Aside0 (w'.heap[ac]? = some (.cells #[.int .u32 af, .int .i64 ag] 24 (0, 0))) ∧ Aside0 (Below w.heap.size w w'))
     case atStart => exact ⟨(0), (0), (by first | rfl | (simp; done) | (simp [*]; done)), (by first | rfl | (simp; done) | (simp [*]; done)), H', ⟨Nat.le_refl _⟩, ⟨by (with_reducible repeat (first | apply Kd.R_alloc | apply Kd.R_drewN | apply Kd.R_drew)); exact HO_5.out⟩, ⟨by (with_reducible repeat (first | refine blk_drewN ?_ _ | refine blk_drew ?_ | refine blk_alloc ?_ _)); exact aa.out⟩, ⟨by repeat (first | (with_reducible first | exact HB.out | apply below_alloc | apply pw_below_drewN | apply below_drew1) | exact HB.out)⟩⟩
     case round =>
      clear H'
      try clear c1
      try clear p2
      try clear c5
      try clear c5b0
      try clear c5b1
      try clear c7
      try clear an
      try clear c17b0
      try clear c17b1
      try clear c18
      try clear hcz12_0
      try clear hcz12_1
      try clear hcz14_0
      try clear hcz14_1
      try clear hfz12_0
      try clear hfz12_1
      try clear hfz14_0
      try clear hfz14_1
      try clear p2
      obtain ⟨x11_2, x12_2, rfl, rfl, HA, HK2, HO_5, aa, HB⟩ := hrel
      cases gk with
      | zero => exact absurd HA.out (by simp [whirligiglaw02_PlistBare.l0])
      | succ k2 =>
       have H := HA.out
       clear HA
       simp only [whirligiglaw02_PlistBare.l0] at H
       by_cases c19 : x12_2 < (t316.length : Int)
       ·rw [if_pos c19] at H
        have c19b0 : decide (x12_2 < (t316.length : Int)) = true := decide_eq_true c19
        clear c19
        have H' := Aside0.mk H
        clear H
        go_wp2
        repeat (go_quiet (fail); try go_wp2)
        go_loopg [11] k2 (fun kq v11 w' => ∃ (x11_3 : Int), v11 = .int .i64 x11_3 ∧ Aside0 (whirligiglaw02_PlistBare.l1 kq l0 t316 x11_3 x12_2 = some r) ∧ Aside0 (kq ≤ k2) ∧ Aside0 (Kd.R k26 26 w' w.heap.size (fun _ => True) (.slice Ao15 t316.length co15) t316) ∧ Aside0 (w'.heap[ac]? = some (.cells #[.int .u32 af, .int .i64 ag] 24 (0, 0))) ∧ Aside0 (Below w.heap.size w w'))
        case atStart => exact ⟨(x11_2), (by first | rfl | (simp; done) | (simp [*]; done)), H', ⟨Nat.le_refl _⟩, ⟨by (with_reducible repeat (first | apply Kd.R_alloc | apply Kd.R_drewN | apply Kd.R_drew)); exact HO_5.out⟩, ⟨by (with_reducible repeat (first | refine blk_drewN ?_ _ | refine blk_drew ?_ | refine blk_alloc ?_ _)); exact aa.out⟩, ⟨by repeat (first | (with_reducible first | exact HB.out | apply below_alloc | apply pw_below_drewN | apply below_drew1) | exact HB.out)⟩⟩
        case round =>
         clear H'
         try clear c1
         try clear p2
         try clear c5
         try clear c5b0
         try clear c5b1
         try clear c7
         try clear an
         try clear c17b0
         try clear c17b1
         try clear c18
         try clear c19
         try clear c19b0
         try clear hcz12_0
         try clear hcz12_1
         try clear hcz14_0
         try clear hcz14_1
         try clear hfz12_0
         try clear hfz12_1
         try clear hfz14_0
         try clear hfz14_1
         try clear p2
         obtain ⟨x11_3, rfl, HA, HK3, HO_5, aa, HB⟩ := hrel
         cases gk with
         | zero => exact absurd HA.out (by simp [whirligiglaw02_PlistBare.l1])
         | succ k3 =>
          have H := HA.out
          clear HA
          simp only [whirligiglaw02_PlistBare.l1] at H
          by_cases c20 : x11_3 < (l0.length : Int)
          ·rw [if_pos c20] at H
           have c20b0 : decide (x11_3 < (l0.length : Int)) = true := decide_eq_true c20
           clear c20
           by_cases c21 : 0 ≤ x11_3
           ·rw [if_pos c21] at H
            have c21b0 : decide (0 ≤ x11_3) = true := decide_eq_true c21
            clear c21
            by_cases c22 : 0 ≤ x12_2
            ·rw [if_pos c22] at H
             have c22b0 : decide (0 ≤ x12_2) = true := decide_eq_true c22
             clear c22
             by_cases c23 : x12_2 < (t316.length : Int)
             ·rw [if_pos c23] at H
              have c23b0 : decide (x12_2 < (t316.length : Int)) = true := decide_eq_true c23
              clear c23
              by_cases c24 : ((!(((rd_T26 l0 x11_3).f0.f0) == ((rd_T26 t316 x12_2).f0.f0)) || (!(((rd_T26 l0 x11_3).f0.f1) == ((rd_T26 t316 x12_2).f0.f1)))) || (!(((rd_T26 l0 x11_3).f1) == ((rd_T26 t316 x12_2).f1)) || (!(((rd_T26 l0 x11_3).f2) == ((rd_T26 t316 x12_2).f2)) || (!(((rd_T26 l0 x11_3).f3) == ((rd_T26 t316 x12_2).f3)))))) = true
              ·rw [if_pos c24] at H
               have c24b0 : ((!(((rd_T26 l0 x11_3).f0.f0) == ((rd_T26 t316 x12_2).f0.f0)) || (!(((rd_T26 l0 x11_3).f0.f1) == ((rd_T26 t316 x12_2).f0.f1)))) || (!(((rd_T26 l0 x11_3).f1) == ((rd_T26 t316 x12_2).f1)) || (!(((rd_T26 l0 x11_3).f2) == ((rd_T26 t316 x12_2).f2)) || (!(((rd_T26 l0 x11_3).f3) == ((rd_T26 t316 x12_2).f3)))))) = true := c24
               clear c24
               have H' := Aside0.mk H
               clear H
               have p333 : 0 ≤ (x11_3 : Int) := of_decide_eq_true (by first | (with_reducible assumption) | assumption)
               have q333 : x11_3 < (l0.length : Int) := of_decide_eq_true (by first | (with_reducible assumption) | assumption)
               obtain ⟨ad333, e333, hx333_0, hx333_1, hx333_2, hx333_3, hx333_4⟩ := at_T26 ah.out x11_3 p333 q333
               (try (injection e333 with e333; replace e333 := e333.symm; subst e333; have e333 : True := trivial))
               cases e333
               replace hx333_0 := (HB.out.cell (World.block_lt_of_cell? w _ hx333_0)).trans hx333_0
               replace hx333_1 := (HB.out.cell (World.block_lt_of_cell? w _ hx333_1)).trans hx333_1
               replace hx333_2 := (HB.out.cell (World.block_lt_of_cell? w _ hx333_2)).trans hx333_2
               replace hx333_3 := (HB.out.cell (World.block_lt_of_cell? w _ hx333_3)).trans hx333_3
               replace hx333_4 := (HB.out.cell (World.block_lt_of_cell? w _ hx333_4)).trans hx333_4
               replace p333 := eq_true p333
               replace q333 := eq_true q333
               have p334 : 0 ≤ (x12_2 : Int) := of_decide_eq_true (by first | (with_reducible assumption) | assumption)
               have q334 : x12_2 < (t316.length : Int) := of_decide_eq_true (by first | (with_reducible assumption) | assumption)
               obtain ⟨ad334, e334, hx334_0, hx334_1, hx334_2, hx334_3, hx334_4⟩ := at_T26 (Kd.R_reads' HO_5.out).2.2 x12_2 p334 q334
               (try (injection e334 with e334; replace e334 := e334.symm; subst e334; have e334 : True := trivial))
               cases e334
               replace p334 := eq_true p334
               replace q334 := eq_true q334
               go_wp2
               repeat (go_quiet (fail); try go_wp2)
               go_roundg k3
               case measure => have := HJ7.out; have := HK2.out; have := HK3.out; omega
               case rel => exact ⟨(wrap64 (x11_3 + 1)), (by first | rfl | (simp; done) | (simp [*]; done)), H', ⟨by have := HJ7.out; have := HK2.out; have := HK3.out; omega⟩, ⟨by (with_reducible repeat (first | apply Kd.R_alloc | apply Kd.R_drewN | apply Kd.R_drew)); exact HO_5.out⟩, ⟨by (with_reducible repeat (first | refine blk_drewN ?_ _ | refine blk_drew ?_ | refine blk_alloc ?_ _)); exact aa.out⟩, ⟨by repeat (first | (with_reducible first | exact HB.out | apply below_alloc | apply pw_below_drewN | apply below_drew1) | exact HB.out)⟩⟩
              ·rw [if_neg c24] at H
               have c24b0 : ((!(((rd_T26 l0 x11_3).f0.f0) == ((rd_T26 t316 x12_2).f0.f0)) || (!(((rd_T26 l0 x11_3).f0.f1) == ((rd_T26 t316 x12_2).f0.f1)))) || (!(((rd_T26 l0 x11_3).f1) == ((rd_T26 t316 x12_2).f1)) || (!(((rd_T26 l0 x11_3).f2) == ((rd_T26 t316 x12_2).f2)) || (!(((rd_T26 l0 x11_3).f3) == ((rd_T26 t316 x12_2).f3)))))) = false := by simpa using c24
               clear c24
               replace H := Option.bind_eq_some_iff.mp H
               obtain ⟨⟨t335, t336⟩, A250, H⟩ := H
               (try dsimp only at H)
               have al := Aside0.mk A250
               clear A250
               by_cases c26 : x11_3 = (l0.length : Int)
               ·rw [if_pos c26] at H
                have c26b0 : (x11_3 == (l0.length : Int)) = true := beq_iff_eq.mpr c26
                have c26b1 : (x11_3 != (l0.length : Int)) = false := bne_eq_false_iff_eq.mpr c26
                clear c26
                obtain rfl := Option.some.inj H
                have p333 : 0 ≤ (x11_3 : Int) := of_decide_eq_true (by first | (with_reducible assumption) | assumption)
                have q333 : x11_3 < (l0.length : Int) := of_decide_eq_true (by first | (with_reducible assumption) | assumption)
                obtain ⟨ad333, e333, hx333_0, hx333_1, hx333_2, hx333_3, hx333_4⟩ := at_T26 ah.out x11_3 p333 q333
                (try (injection e333 with e333; replace e333 := e333.symm; subst e333; have e333 : True := trivial))
                cases e333
                replace hx333_0 := (HB.out.cell (World.block_lt_of_cell? w _ hx333_0)).trans hx333_0
                replace hx333_1 := (HB.out.cell (World.block_lt_of_cell? w _ hx333_1)).trans hx333_1
                replace hx333_2 := (HB.out.cell (World.block_lt_of_cell? w _ hx333_2)).trans hx333_2
                replace hx333_3 := (HB.out.cell (World.block_lt_of_cell? w _ hx333_3)).trans hx333_3
                replace hx333_4 := (HB.out.cell (World.block_lt_of_cell? w _ hx333_4)).trans hx333_4
                replace p333 := eq_true p333
                replace q333 := eq_true q333
                have p334 : 0 ≤ (x12_2 : Int) := of_decide_eq_true (by first | (with_reducible assumption) | assumption)
                have q334 : x12_2 < (t316.length : Int) := of_decide_eq_true (by first | (with_reducible assumption) | assumption)
                obtain ⟨ad334, e334, hx334_0, hx334_1, hx334_2, hx334_3, hx334_4⟩ := at_T26 (Kd.R_reads' HO_5.out).2.2 x12_2 p334 q334
                (try (injection e334 with e334; replace e334 := e334.symm; subst e334; have e334 : True := trivial))
                cases e334
                replace p334 := eq_true p334
                replace q334 := eq_true q334
                go_wp2_with (first | (go_at_call 20; (with_reducible refine (plist_Idle.calls k3 _ _ t316 x12_2 t335 t336 _ ?side1 ?side2 al.out).mono ?_); (case side1 => repeat (first | exact (Kd.R_reads' HO_5.out).2.2 | (with_reducible refine Kd.C_alloc ?_ _) | (with_reducible refine Kd.C_drewN ?_ _) | (with_reducible refine Kd.C_drew ?_))); (case side2 => exact (Kd.R_reads' HO_5.out).2.1); rintro e w27 ⟨rfl, hb⟩; replace HO_5 := Aside0.mk (Kd.R_below (by (with_reducible repeat (first | apply Kd.R_alloc | apply Kd.R_drewN | apply Kd.R_drew)); exact HO_5.out) hb); replace aa := Aside0.mk (kcdf8.q aa.out hb rfl); replace HB := Aside0.mk (kcdf8.z HB.out hb rfl rfl rfl rfl); (try clear hb); (try clear ae); (try clear hk); (try clear hi)))
                repeat (go_quiet (first | (go_at_call 20; (with_reducible refine (plist_Idle.calls k3 _ _ t316 x12_2 t335 t336 _ ?side1 ?side2 al.out).mono ?_); (case side1 => repeat (first | exact (Kd.R_reads' HO_5.out).2.2 | (with_reducible refine Kd.C_alloc ?_ _) | (with_reducible refine Kd.C_drewN ?_ _) | (with_reducible refine Kd.C_drew ?_))); (case side2 => exact (Kd.R_reads' HO_5.out).2.1); rintro e w27 ⟨rfl, hb⟩; replace HO_5 := Aside0.mk (Kd.R_below (by (with_reducible repeat (first | apply Kd.R_alloc | apply Kd.R_drewN | apply Kd.R_drew)); exact HO_5.out) hb); replace aa := Aside0.mk (kcdf8.q aa.out hb rfl); replace HB := Aside0.mk (kcdf8.z HB.out hb rfl rfl rfl rfl); (try clear hb); (try clear ae); (try clear hk); (try clear hi))); try go_wp2_with (first | (go_at_call 20; (with_reducible refine (plist_Idle.calls k3 _ _ t316 x12_2 t335 t336 _ ?side1 ?side2 al.out).mono ?_); (case side1 => repeat (first | exact (Kd.R_reads' HO_5.out).2.2 | (with_reducible refine Kd.C_alloc ?_ _) | (with_reducible refine Kd.C_drewN ?_ _) | (with_reducible refine Kd.C_drew ?_))); (case side2 => exact (Kd.R_reads' HO_5.out).2.1); rintro e w27 ⟨rfl, hb⟩; replace HO_5 := Aside0.mk (Kd.R_below (by (with_reducible repeat (first | apply Kd.R_alloc | apply Kd.R_drewN | apply Kd.R_drew)); exact HO_5.out) hb); replace aa := Aside0.mk (kcdf8.q aa.out hb rfl); replace HB := Aside0.mk (kcdf8.z HB.out hb rfl rfl rfl rfl); (try clear hb); (try clear ae); (try clear hk); (try clear hi))))
                go_ret
                exact ⟨by first | rfl | (simp [errW_none, errW_some] <;> rfl) | (simp [*, errW_none, errW_some] <;> rfl), by repeat (first | (with_reducible first | exact HB.out | apply below_alloc | apply pw_below_drewN | apply below_drew1) | exact HB.out)⟩
               ·rw [if_neg c26] at H
                have c26b0 : (x11_3 == (l0.length : Int)) = false := beq_eq_false_iff_ne.mpr c26
                have c26b1 : (x11_3 != (l0.length : Int)) = true := bne_iff_ne.mpr c26
                by_cases c28 : t335 = true
                ·subst c28
                 have H1 : (some false) = some r := by rw [if_pos rfl] at H; exact H
                 clear H
                 have H := H1
                 clear H1
                 obtain rfl := Option.some.inj H
                 have p333 : 0 ≤ (x11_3 : Int) := of_decide_eq_true (by first | (with_reducible assumption) | assumption)
                 have q333 : x11_3 < (l0.length : Int) := of_decide_eq_true (by first | (with_reducible assumption) | assumption)
                 obtain ⟨ad333, e333, hx333_0, hx333_1, hx333_2, hx333_3, hx333_4⟩ := at_T26 ah.out x11_3 p333 q333
                 (try (injection e333 with e333; replace e333 := e333.symm; subst e333; have e333 : True := trivial))
                 cases e333
                 replace hx333_0 := (HB.out.cell (World.block_lt_of_cell? w _ hx333_0)).trans hx333_0
                 replace hx333_1 := (HB.out.cell (World.block_lt_of_cell? w _ hx333_1)).trans hx333_1
                 replace hx333_2 := (HB.out.cell (World.block_lt_of_cell? w _ hx333_2)).trans hx333_2
                 replace hx333_3 := (HB.out.cell (World.block_lt_of_cell? w _ hx333_3)).trans hx333_3
                 replace hx333_4 := (HB.out.cell (World.block_lt_of_cell? w _ hx333_4)).trans hx333_4
                 replace p333 := eq_true p333
                 replace q333 := eq_true q333
                 have p334 : 0 ≤ (x12_2 : Int) := of_decide_eq_true (by first | (with_reducible assumption) | assumption)
                 have q334 : x12_2 < (t316.length : Int) := of_decide_eq_true (by first | (with_reducible assumption) | assumption)
                 obtain ⟨ad334, e334, hx334_0, hx334_1, hx334_2, hx334_3, hx334_4⟩ := at_T26 (Kd.R_reads' HO_5.out).2.2 x12_2 p334 q334
                 (try (injection e334 with e334; replace e334 := e334.symm; subst e334; have e334 : True := trivial))
                 cases e334
                 replace p334 := eq_true p334
                 replace q334 := eq_true q334
                 go_wp2_with (first | (go_at_call 20; (with_reducible refine (plist_Idle.calls k3 _ _ t316 x12_2 true t336 _ ?side1 ?side2 al.out).mono ?_); (case side1 => repeat (first | exact (Kd.R_reads' HO_5.out).2.2 | (with_reducible refine Kd.C_alloc ?_ _) | (with_reducible refine Kd.C_drewN ?_ _) | (with_reducible refine Kd.C_drew ?_))); (case side2 => exact (Kd.R_reads' HO_5.out).2.1); rintro e w29 ⟨rfl, hb⟩; replace HO_5 := Aside0.mk (Kd.R_below (by (with_reducible repeat (first | apply Kd.R_alloc | apply Kd.R_drewN | apply Kd.R_drew)); exact HO_5.out) hb); replace aa := Aside0.mk (kcdf8.q aa.out hb rfl); replace HB := Aside0.mk (kcdf8.z HB.out hb rfl rfl rfl rfl); (try clear hb); (try clear ae); (try clear hk); (try clear hi)))
                 repeat (go_quiet (first | (go_at_call 20; (with_reducible refine (plist_Idle.calls k3 _ _ t316 x12_2 true t336 _ ?side1 ?side2 al.out).mono ?_); (case side1 => repeat (first | exact (Kd.R_reads' HO_5.out).2.2 | (with_reducible refine Kd.C_alloc ?_ _) | (with_reducible refine Kd.C_drewN ?_ _) | (with_reducible refine Kd.C_drew ?_))); (case side2 => exact (Kd.R_reads' HO_5.out).2.1); rintro e w29 ⟨rfl, hb⟩; replace HO_5 := Aside0.mk (Kd.R_below (by (with_reducible repeat (first | apply Kd.R_alloc | apply Kd.R_drewN | apply Kd.R_drew)); exact HO_5.out) hb); replace aa := Aside0.mk (kcdf8.q aa.out hb rfl); replace HB := Aside0.mk (kcdf8.z HB.out hb rfl rfl rfl rfl); (try clear hb); (try clear ae); (try clear hk); (try clear hi))); try go_wp2_with (first | (go_at_call 20; (with_reducible refine (plist_Idle.calls k3 _ _ t316 x12_2 true t336 _ ?side1 ?side2 al.out).mono ?_); (case side1 => repeat (first | exact (Kd.R_reads' HO_5.out).2.2 | (with_reducible refine Kd.C_alloc ?_ _) | (with_reducible refine Kd.C_drewN ?_ _) | (with_reducible refine Kd.C_drew ?_))); (case side2 => exact (Kd.R_reads' HO_5.out).2.1); rintro e w29 ⟨rfl, hb⟩; replace HO_5 := Aside0.mk (Kd.R_below (by (with_reducible repeat (first | apply Kd.R_alloc | apply Kd.R_drewN | apply Kd.R_drew)); exact HO_5.out) hb); replace aa := Aside0.mk (kcdf8.q aa.out hb rfl); replace HB := Aside0.mk (kcdf8.z HB.out hb rfl rfl rfl rfl); (try clear hb); (try clear ae); (try clear hk); (try clear hi))))
                 go_ret
                 exact ⟨by first | rfl | (simp [errW_none, errW_some] <;> rfl) | (simp [*, errW_none, errW_some] <;> rfl), by repeat (first | (with_reducible first | exact HB.out | apply below_alloc | apply pw_below_drewN | apply below_drew1) | exact HB.out)⟩
                ·replace c28 := Bool.eq_false_iff.mpr c28
                 subst c28
                 have H1 : (if t336 = 0 then (whirligiglaw02_PlistBare.l0 k3 l0 t316 (wrap64 (x11_3 + 1)) (wrap64 (x12_2 + 1))) else (some false)) = some r := by rw [if_neg (show ¬ (false = true) by decide)] at H; exact H
                 clear H
                 have H := H1
                 clear H1
                 by_cases c30 : t336 = 0
                 ·rw [if_pos c30] at H
                  have c30b0 : (t336 == 0) = true := beq_iff_eq.mpr c30
                  have c30b1 : (t336 != 0) = false := bne_eq_false_iff_eq.mpr c30
                  clear c30
                  have H' := Aside0.mk H
                  clear H
                  have p333 : 0 ≤ (x11_3 : Int) := of_decide_eq_true (by first | (with_reducible assumption) | assumption)
                  have q333 : x11_3 < (l0.length : Int) := of_decide_eq_true (by first | (with_reducible assumption) | assumption)
                  obtain ⟨ad333, e333, hx333_0, hx333_1, hx333_2, hx333_3, hx333_4⟩ := at_T26 ah.out x11_3 p333 q333
                  (try (injection e333 with e333; replace e333 := e333.symm; subst e333; have e333 : True := trivial))
                  cases e333
                  replace hx333_0 := (HB.out.cell (World.block_lt_of_cell? w _ hx333_0)).trans hx333_0
                  replace hx333_1 := (HB.out.cell (World.block_lt_of_cell? w _ hx333_1)).trans hx333_1
                  replace hx333_2 := (HB.out.cell (World.block_lt_of_cell? w _ hx333_2)).trans hx333_2
                  replace hx333_3 := (HB.out.cell (World.block_lt_of_cell? w _ hx333_3)).trans hx333_3
                  replace hx333_4 := (HB.out.cell (World.block_lt_of_cell? w _ hx333_4)).trans hx333_4
                  replace p333 := eq_true p333
                  replace q333 := eq_true q333
                  have p334 : 0 ≤ (x12_2 : Int) := of_decide_eq_true (by first | (with_reducible assumption) | assumption)
                  have q334 : x12_2 < (t316.length : Int) := of_decide_eq_true (by first | (with_reducible assumption) | assumption)
                  obtain ⟨ad334, e334, hx334_0, hx334_1, hx334_2, hx334_3, hx334_4⟩ := at_T26 (Kd.R_reads' HO_5.out).2.2 x12_2 p334 q334
                  (try (injection e334 with e334; replace e334 := e334.symm; subst e334; have e334 : True := trivial))
                  cases e334
                  replace p334 := eq_true p334
                  replace q334 := eq_true q334
                  go_wp2_with (first | (go_at_call 20; (with_reducible refine (plist_Idle.calls k3 _ _ t316 x12_2 false t336 _ ?side1 ?side2 al.out).mono ?_); (case side1 => repeat (first | exact (Kd.R_reads' HO_5.out).2.2 | (with_reducible refine Kd.C_alloc ?_ _) | (with_reducible refine Kd.C_drewN ?_ _) | (with_reducible refine Kd.C_drew ?_))); (case side2 => exact (Kd.R_reads' HO_5.out).2.1); rintro e w31 ⟨rfl, hb⟩; replace HO_5 := Aside0.mk (Kd.R_below (by (with_reducible repeat (first | apply Kd.R_alloc | apply Kd.R_drewN | apply Kd.R_drew)); exact HO_5.out) hb); replace aa := Aside0.mk (kcdf8.q aa.out hb rfl); replace HB := Aside0.mk (kcdf8.z HB.out hb rfl rfl rfl rfl); (try clear hb); (try clear ae); (try clear hk); (try clear hi)))
                  repeat (go_quiet (first | (go_at_call 20; (with_reducible refine (plist_Idle.calls k3 _ _ t316 x12_2 false t336 _ ?side1 ?side2 al.out).mono ?_); (case side1 => repeat (first | exact (Kd.R_reads' HO_5.out).2.2 | (with_reducible refine Kd.C_alloc ?_ _) | (with_reducible refine Kd.C_drewN ?_ _) | (with_reducible refine Kd.C_drew ?_))); (case side2 => exact (Kd.R_reads' HO_5.out).2.1); rintro e w31 ⟨rfl, hb⟩; replace HO_5 := Aside0.mk (Kd.R_below (by (with_reducible repeat (first | apply Kd.R_alloc | apply Kd.R_drewN | apply Kd.R_drew)); exact HO_5.out) hb); replace aa := Aside0.mk (kcdf8.q aa.out hb rfl); replace HB := Aside0.mk (kcdf8.z HB.out hb rfl rfl rfl rfl); (try clear hb); (try clear ae); (try clear hk); (try clear hi))); try go_wp2_with (first | (go_at_call 20; (with_reducible refine (plist_Idle.calls k3 _ _ t316 x12_2 false t336 _ ?side1 ?side2 al.out).mono ?_); (case side1 => repeat (first | exact (Kd.R_reads' HO_5.out).2.2 | (with_reducible refine Kd.C_alloc ?_ _) | (with_reducible refine Kd.C_drewN ?_ _) | (with_reducible refine Kd.C_drew ?_))); (case side2 => exact (Kd.R_reads' HO_5.out).2.1); rintro e w31 ⟨rfl, hb⟩; replace HO_5 := Aside0.mk (Kd.R_below (by (with_reducible repeat (first | apply Kd.R_alloc | apply Kd.R_drewN | apply Kd.R_drew)); exact HO_5.out) hb); replace aa := Aside0.mk (kcdf8.q aa.out hb rfl); replace HB := Aside0.mk (kcdf8.z HB.out hb rfl rfl rfl rfl); (try clear hb); (try clear ae); (try clear hk); (try clear hi))))
                  go_roundg k3
                  case measure => have := HJ7.out; have := HK2.out; have := HK3.out; omega
                  case rel => exact ⟨(wrap64 (x11_3 + 1)), (wrap64 (x12_2 + 1)), (by first | rfl | (simp; done) | (simp [*]; done)), (by first | rfl | (simp; done) | (simp [*]; done)), H', ⟨by have := HJ7.out; have := HK2.out; have := HK3.out; omega⟩, ⟨by (with_reducible repeat (first | apply Kd.R_alloc | apply Kd.R_drewN | apply Kd.R_drew)); exact HO_5.out⟩, ⟨by (with_reducible repeat (first | refine blk_drewN ?_ _ | refine blk_drew ?_ | refine blk_alloc ?_ _)); exact aa.out⟩, ⟨by repeat (first | (with_reducible first | exact HB.out | apply below_alloc | apply pw_below_drewN | apply below_drew1) | exact HB.out)⟩⟩
                 ·rw [if_neg c30] at H
                  have c30b0 : (t336 == 0) = false := beq_eq_false_iff_ne.mpr c30
                  have c30b1 : (t336 != 0) = true := bne_iff_ne.mpr c30
                  obtain rfl := Option.some.inj H
                  have p333 : 0 ≤ (x11_3 : Int) := of_decide_eq_true (by first | (with_reducible assumption) | assumption)
                  have q333 : x11_3 < (l0.length : Int) := of_decide_eq_true (by first | (with_reducible assumption) | assumption)
                  obtain ⟨ad333, e333, hx333_0, hx333_1, hx333_2, hx333_3, hx333_4⟩ := at_T26 ah.out x11_3 p333 q333
                  (try (injection e333 with e333; replace e333 := e333.symm; subst e333; have e333 : True := trivial))
                  cases e333
                  replace hx333_0 := (HB.out.cell (World.block_lt_of_cell? w _ hx333_0)).trans hx333_0
                  replace hx333_1 := (HB.out.cell (World.block_lt_of_cell? w _ hx333_1)).trans hx333_1
                  replace hx333_2 := (HB.out.cell (World.block_lt_of_cell? w _ hx333_2)).trans hx333_2
                  replace hx333_3 := (HB.out.cell (World.block_lt_of_cell? w _ hx333_3)).trans hx333_3
                  replace hx333_4 := (HB.out.cell (World.block_lt_of_cell? w _ hx333_4)).trans hx333_4
                  replace p333 := eq_true p333
                  replace q333 := eq_true q333
                  have p334 : 0 ≤ (x12_2 : Int) := of_decide_eq_true (by first | (with_reducible assumption) | assumption)
                  have q334 : x12_2 < (t316.length : Int) := of_decide_eq_true (by first | (with_reducible assumption) | assumption)
                  obtain ⟨ad334, e334, hx334_0, hx334_1, hx334_2, hx334_3, hx334_4⟩ := at_T26 (Kd.R_reads' HO_5.out).2.2 x12_2 p334 q334
                  (try (injection e334 with e334; replace e334 := e334.symm; subst e334; have e334 : True := trivial))
                  cases e334
                  replace p334 := eq_true p334
                  replace q334 := eq_true q334
                  go_wp2_with (first | (go_at_call 20; (with_reducible refine (plist_Idle.calls k3 _ _ t316 x12_2 false t336 _ ?side1 ?side2 al.out).mono ?_); (case side1 => repeat (first | exact (Kd.R_reads' HO_5.out).2.2 | (with_reducible refine Kd.C_alloc ?_ _) | (with_reducible refine Kd.C_drewN ?_ _) | (with_reducible refine Kd.C_drew ?_))); (case side2 => exact (Kd.R_reads' HO_5.out).2.1); rintro e w32 ⟨rfl, hb⟩; replace HO_5 := Aside0.mk (Kd.R_below (by (with_reducible repeat (first | apply Kd.R_alloc | apply Kd.R_drewN | apply Kd.R_drew)); exact HO_5.out) hb); replace aa := Aside0.mk (kcdf8.q aa.out hb rfl); replace HB := Aside0.mk (kcdf8.z HB.out hb rfl rfl rfl rfl); (try clear hb); (try clear ae); (try clear hk); (try clear hi)))
                  repeat (go_quiet (first | (go_at_call 20; (with_reducible refine (plist_Idle.calls k3 _ _ t316 x12_2 false t336 _ ?side1 ?side2 al.out).mono ?_); (case side1 => repeat (first | exact (Kd.R_reads' HO_5.out).2.2 | (with_reducible refine Kd.C_alloc ?_ _) | (with_reducible refine Kd.C_drewN ?_ _) | (with_reducible refine Kd.C_drew ?_))); (case side2 => exact (Kd.R_reads' HO_5.out).2.1); rintro e w32 ⟨rfl, hb⟩; replace HO_5 := Aside0.mk (Kd.R_below (by (with_reducible repeat (first | apply Kd.R_alloc | apply Kd.R_drewN | apply Kd.R_drew)); exact HO_5.out) hb); replace aa := Aside0.mk (kcdf8.q aa.out hb rfl); replace HB := Aside0.mk (kcdf8.z HB.out hb rfl rfl rfl rfl); (try clear hb); (try clear ae); (try clear hk); (try clear hi))); try go_wp2_with (first | (go_at_call 20; (with_reducible refine (plist_Idle.calls k3 _ _ t316 x12_2 false t336 _ ?side1 ?side2 al.out).mono ?_); (case side1 => repeat (first | exact (Kd.R_reads' HO_5.out).2.2 | (with_reducible refine Kd.C_alloc ?_ _) | (with_reducible refine Kd.C_drewN ?_ _) | (with_reducible refine Kd.C_drew ?_))); (case side2 => exact (Kd.R_reads' HO_5.out).2.1); rintro e w32 ⟨rfl, hb⟩; replace HO_5 := Aside0.mk (Kd.R_below (by (with_reducible repeat (first | apply Kd.R_alloc | apply Kd.R_drewN | apply Kd.R_drew)); exact HO_5.out) hb); replace aa := Aside0.mk (kcdf8.q aa.out hb rfl); replace HB := Aside0.mk (kcdf8.z HB.out hb rfl rfl rfl rfl); (try clear hb); (try clear ae); (try clear hk); (try clear hi))))
                  go_ret
                  exact ⟨by first | rfl | (simp [errW_none, errW_some] <;> rfl) | (simp [*, errW_none, errW_some] <;> rfl), by repeat (first | (with_reducible first | exact HB.out | apply below_alloc | apply pw_below_drewN | apply below_drew1) | exact HB.out)⟩
             ·rw [if_neg c23] at H
              exact absurd H (by simp)
            ·rw [if_neg c22] at H
             exact absurd H (by simp)
           ·rw [if_neg c21] at H
            exact absurd H (by simp)
          ·rw [if_neg c20] at H
           have c20b0 : decide (x11_3 < (l0.length : Int)) = false := decide_eq_false c20
           clear c20
           replace H := Option.bind_eq_some_iff.mp H
           obtain ⟨⟨t337, t338⟩, A330, H⟩ := H
           (try dsimp only at H)
           have am := Aside0.mk A330
           clear A330
           by_cases c34 : x11_3 = (l0.length : Int)
           ·rw [if_pos c34] at H
            have c34b0 : (x11_3 == (l0.length : Int)) = true := beq_iff_eq.mpr c34
            have c34b1 : (x11_3 != (l0.length : Int)) = false := bne_eq_false_iff_eq.mpr c34
            clear c34
            obtain rfl := Option.some.inj H
            go_wp2_with (first | (go_at_call 20; (with_reducible refine (plist_Idle.calls k3 _ _ t316 x12_2 t337 t338 _ ?side1 ?side2 am.out).mono ?_); (case side1 => repeat (first | exact (Kd.R_reads' HO_5.out).2.2 | (with_reducible refine Kd.C_alloc ?_ _) | (with_reducible refine Kd.C_drewN ?_ _) | (with_reducible refine Kd.C_drew ?_))); (case side2 => exact (Kd.R_reads' HO_5.out).2.1); rintro e w35 ⟨rfl, hb⟩; replace HO_5 := Aside0.mk (Kd.R_below (by (with_reducible repeat (first | apply Kd.R_alloc | apply Kd.R_drewN | apply Kd.R_drew)); exact HO_5.out) hb); replace aa := Aside0.mk (kcdf8.q aa.out hb rfl); replace HB := Aside0.mk (kcdf8.z HB.out hb rfl rfl rfl rfl); (try clear hb); (try clear ae); (try clear hk); (try clear hi)))
            repeat (go_quiet (first | (go_at_call 20; (with_reducible refine (plist_Idle.calls k3 _ _ t316 x12_2 t337 t338 _ ?side1 ?side2 am.out).mono ?_); (case side1 => repeat (first | exact (Kd.R_reads' HO_5.out).2.2 | (with_reducible refine Kd.C_alloc ?_ _) | (with_reducible refine Kd.C_drewN ?_ _) | (with_reducible refine Kd.C_drew ?_))); (case side2 => exact (Kd.R_reads' HO_5.out).2.1); rintro e w35 ⟨rfl, hb⟩; replace HO_5 := Aside0.mk (Kd.R_below (by (with_reducible repeat (first | apply Kd.R_alloc | apply Kd.R_drewN | apply Kd.R_drew)); exact HO_5.out) hb); replace aa := Aside0.mk (kcdf8.q aa.out hb rfl); replace HB := Aside0.mk (kcdf8.z HB.out hb rfl rfl rfl rfl); (try clear hb); (try clear ae); (try clear hk); (try clear hi))); try go_wp2_with (first | (go_at_call 20; (with_reducible refine (plist_Idle.calls k3 _ _ t316 x12_2 t337 t338 _ ?side1 ?side2 am.out).mono ?_); (case side1 => repeat (first | exact (Kd.R_reads' HO_5.out).2.2 | (with_reducible refine Kd.C_alloc ?_ _) | (with_reducible refine Kd.C_drewN ?_ _) | (with_reducible refine Kd.C_drew ?_))); (case side2 => exact (Kd.R_reads' HO_5.out).2.1); rintro e w35 ⟨rfl, hb⟩; replace HO_5 := Aside0.mk (Kd.R_below (by (with_reducible repeat (first | apply Kd.R_alloc | apply Kd.R_drewN | apply Kd.R_drew)); exact HO_5.out) hb); replace aa := Aside0.mk (kcdf8.q aa.out hb rfl); replace HB := Aside0.mk (kcdf8.z HB.out hb rfl rfl rfl rfl); (try clear hb); (try clear ae); (try clear hk); (try clear hi))))
            go_ret
            exact ⟨by first | rfl | (simp [errW_none, errW_some] <;> rfl) | (simp [*, errW_none, errW_some] <;> rfl), by repeat (first | (with_reducible first | exact HB.out | apply below_alloc | apply pw_below_drewN | apply below_drew1) | exact HB.out)⟩
           ·rw [if_neg c34] at H
            have c34b0 : (x11_3 == (l0.length : Int)) = false := beq_eq_false_iff_ne.mpr c34
            have c34b1 : (x11_3 != (l0.length : Int)) = true := bne_iff_ne.mpr c34
            by_cases c36 : t337 = true
            ·subst c36
             have H1 : (some false) = some r := by rw [if_pos rfl] at H; exact H
             clear H
             have H := H1
             clear H1
             obtain rfl := Option.some.inj H
             go_wp2_with (first | (go_at_call 20; (with_reducible refine (plist_Idle.calls k3 _ _ t316 x12_2 true t338 _ ?side1 ?side2 am.out).mono ?_); (case side1 => repeat (first | exact (Kd.R_reads' HO_5.out).2.2 | (with_reducible refine Kd.C_alloc ?_ _) | (with_reducible refine Kd.C_drewN ?_ _) | (with_reducible refine Kd.C_drew ?_))); (case side2 => exact (Kd.R_reads' HO_5.out).2.1); rintro e w37 ⟨rfl, hb⟩; replace HO_5 := Aside0.mk (Kd.R_below (by (with_reducible repeat (first | apply Kd.R_alloc | apply Kd.R_drewN | apply Kd.R_drew)); exact HO_5.out) hb); replace aa := Aside0.mk (kcdf8.q aa.out hb rfl); replace HB := Aside0.mk (kcdf8.z HB.out hb rfl rfl rfl rfl); (try clear hb); (try clear ae); (try clear hk); (try clear hi)))
             repeat (go_quiet (first | (go_at_call 20; (with_reducible refine (plist_Idle.calls k3 _ _ t316 x12_2 true t338 _ ?side1 ?side2 am.out).mono ?_); (case side1 => repeat (first | exact (Kd.R_reads' HO_5.out).2.2 | (with_reducible refine Kd.C_alloc ?_ _) | (with_reducible refine Kd.C_drewN ?_ _) | (with_reducible refine Kd.C_drew ?_))); (case side2 => exact (Kd.R_reads' HO_5.out).2.1); rintro e w37 ⟨rfl, hb⟩; replace HO_5 := Aside0.mk (Kd.R_below (by (with_reducible repeat (first | apply Kd.R_alloc | apply Kd.R_drewN | apply Kd.R_drew)); exact HO_5.out) hb); replace aa := Aside0.mk (kcdf8.q aa.out hb rfl); replace HB := Aside0.mk (kcdf8.z HB.out hb rfl rfl rfl rfl); (try clear hb); (try clear ae); (try clear hk); (try clear hi))); try go_wp2_with (first | (go_at_call 20; (with_reducible refine (plist_Idle.calls k3 _ _ t316 x12_2 true t338 _ ?side1 ?side2 am.out).mono ?_); (case side1 => repeat (first | exact (Kd.R_reads' HO_5.out).2.2 | (with_reducible refine Kd.C_alloc ?_ _) | (with_reducible refine Kd.C_drewN ?_ _) | (with_reducible refine Kd.C_drew ?_))); (case side2 => exact (Kd.R_reads' HO_5.out).2.1); rintro e w37 ⟨rfl, hb⟩; replace HO_5 := Aside0.mk (Kd.R_below (by (with_reducible repeat (first | apply Kd.R_alloc | apply Kd.R_drewN | apply Kd.R_drew)); exact HO_5.out) hb); replace aa := Aside0.mk (kcdf8.q aa.out hb rfl); replace HB := Aside0.mk (kcdf8.z HB.out hb rfl rfl rfl rfl); (try clear hb); (try clear ae); (try clear hk); (try clear hi))))
             go_ret
             exact ⟨by first | rfl | (simp [errW_none, errW_some] <;> rfl) | (simp [*, errW_none, errW_some] <;> rfl), by repeat (first | (with_reducible first | exact HB.out | apply below_alloc | apply pw_below_drewN | apply below_drew1) | exact HB.out)⟩
            ·replace c36 := Bool.eq_false_iff.mpr c36
             subst c36
             have H1 : (if t338 = 0 then (whirligiglaw02_PlistBare.l0 k3 l0 t316 (wrap64 (x11_3 + 1)) (wrap64 (x12_2 + 1))) else (some false)) = some r := by rw [if_neg (show ¬ (false = true) by decide)] at H; exact H
             clear H
             have H := H1
             clear H1
             by_cases c38 : t338 = 0
             ·rw [if_pos c38] at H
              have c38b0 : (t338 == 0) = true := beq_iff_eq.mpr c38
              have c38b1 : (t338 != 0) = false := bne_eq_false_iff_eq.mpr c38
              clear c38
              have H' := Aside0.mk H
              clear H
              go_wp2_with (first | (go_at_call 20; (with_reducible refine (plist_Idle.calls k3 _ _ t316 x12_2 false t338 _ ?side1 ?side2 am.out).mono ?_); (case side1 => repeat (first | exact (Kd.R_reads' HO_5.out).2.2 | (with_reducible refine Kd.C_alloc ?_ _) | (with_reducible refine Kd.C_drewN ?_ _) | (with_reducible refine Kd.C_drew ?_))); (case side2 => exact (Kd.R_reads' HO_5.out).2.1); rintro e w39 ⟨rfl, hb⟩; replace HO_5 := Aside0.mk (Kd.R_below (by (with_reducible repeat (first | apply Kd.R_alloc | apply Kd.R_drewN | apply Kd.R_drew)); exact HO_5.out) hb); replace aa := Aside0.mk (kcdf8.q aa.out hb rfl); replace HB := Aside0.mk (kcdf8.z HB.out hb rfl rfl rfl rfl); (try clear hb); (try clear ae); (try clear hk); (try clear hi)))
              repeat (go_quiet (first | (go_at_call 20; (with_reducible refine (plist_Idle.calls k3 _ _ t316 x12_2 false t338 _ ?side1 ?side2 am.out).mono ?_); (case side1 => repeat (first | exact (Kd.R_reads' HO_5.out).2.2 | (with_reducible refine Kd.C_alloc ?_ _) | (with_reducible refine Kd.C_drewN ?_ _) | (with_reducible refine Kd.C_drew ?_))); (case side2 => exact (Kd.R_reads' HO_5.out).2.1); rintro e w39 ⟨rfl, hb⟩; replace HO_5 := Aside0.mk (Kd.R_below (by (with_reducible repeat (first | apply Kd.R_alloc | apply Kd.R_drewN | apply Kd.R_drew)); exact HO_5.out) hb); replace aa := Aside0.mk (kcdf8.q aa.out hb rfl); replace HB := Aside0.mk (kcdf8.z HB.out hb rfl rfl rfl rfl); (try clear hb); (try clear ae); (try clear hk); (try clear hi))); try go_wp2_with (first | (go_at_call 20; (with_reducible refine (plist_Idle.calls k3 _ _ t316 x12_2 false t338 _ ?side1 ?side2 am.out).mono ?_); (case side1 => repeat (first | exact (Kd.R_reads' HO_5.out).2.2 | (with_reducible refine Kd.C_alloc ?_ _) | (with_reducible refine Kd.C_drewN ?_ _) | (with_reducible refine Kd.C_drew ?_))); (case side2 => exact (Kd.R_reads' HO_5.out).2.1); rintro e w39 ⟨rfl, hb⟩; replace HO_5 := Aside0.mk (Kd.R_below (by (with_reducible repeat (first | apply Kd.R_alloc | apply Kd.R_drewN | apply Kd.R_drew)); exact HO_5.out) hb); replace aa := Aside0.mk (kcdf8.q aa.out hb rfl); replace HB := Aside0.mk (kcdf8.z HB.out hb rfl rfl rfl rfl); (try clear hb); (try clear ae); (try clear hk); (try clear hi))))
              go_roundg k3
              case measure => have := HJ7.out; have := HK2.out; have := HK3.out; omega
              case rel => exact ⟨(wrap64 (x11_3 + 1)), (wrap64 (x12_2 + 1)), (by first | rfl | (simp; done) | (simp [*]; done)), (by first | rfl | (simp; done) | (simp [*]; done)), H', ⟨by have := HJ7.out; have := HK2.out; have := HK3.out; omega⟩, ⟨by (with_reducible repeat (first | apply Kd.R_alloc | apply Kd.R_drewN | apply Kd.R_drew)); exact HO_5.out⟩, ⟨by (with_reducible repeat (first | refine blk_drewN ?_ _ | refine blk_drew ?_ | refine blk_alloc ?_ _)); exact aa.out⟩, ⟨by repeat (first | (with_reducible first | exact HB.out | apply below_alloc | apply pw_below_drewN | apply below_drew1) | exact HB.out)⟩⟩
             ·rw [if_neg c38] at H
              have c38b0 : (t338 == 0) = false := beq_eq_false_iff_ne.mpr c38
              have c38b1 : (t338 != 0) = true := bne_iff_ne.mpr c38
              obtain rfl := Option.some.inj H
              go_wp2_with (first | (go_at_call 20; (with_reducible refine (plist_Idle.calls k3 _ _ t316 x12_2 false t338 _ ?side1 ?side2 am.out).mono ?_); (case side1 => repeat (first | exact (Kd.R_reads' HO_5.out).2.2 | (with_reducible refine Kd.C_alloc ?_ _) | (with_reducible refine Kd.C_drewN ?_ _) | (with_reducible refine Kd.C_drew ?_))); (case side2 => exact (Kd.R_reads' HO_5.out).2.1); rintro e w40 ⟨rfl, hb⟩; replace HO_5 := Aside0.mk (Kd.R_below (by (with_reducible repeat (first | apply Kd.R_alloc | apply Kd.R_drewN | apply Kd.R_drew)); exact HO_5.out) hb); replace aa := Aside0.mk (kcdf8.q aa.out hb rfl); replace HB := Aside0.mk (kcdf8.z HB.out hb rfl rfl rfl rfl); (try clear hb); (try clear ae); (try clear hk); (try clear hi)))
              repeat (go_quiet (first | (go_at_call 20; (with_reducible refine (plist_Idle.calls k3 _ _ t316 x12_2 false t338 _ ?side1 ?side2 am.out).mono ?_); (case side1 => repeat (first | exact (Kd.R_reads' HO_5.out).2.2 | (with_reducible refine Kd.C_alloc ?_ _) | (with_reducible refine Kd.C_drewN ?_ _) | (with_reducible refine Kd.C_drew ?_))); (case side2 => exact (Kd.R_reads' HO_5.out).2.1); rintro e w40 ⟨rfl, hb⟩; replace HO_5 := Aside0.mk (Kd.R_below (by (with_reducible repeat (first | apply Kd.R_alloc | apply Kd.R_drewN | apply Kd.R_drew)); exact HO_5.out) hb); replace aa := Aside0.mk (kcdf8.q aa.out hb rfl); replace HB := Aside0.mk (kcdf8.z HB.out hb rfl rfl rfl rfl); (try clear hb); (try clear ae); (try clear hk); (try clear hi))); try go_wp2_with (first | (go_at_call 20; (with_reducible refine (plist_Idle.calls k3 _ _ t316 x12_2 false t338 _ ?side1 ?side2 am.out).mono ?_); (case side1 => repeat (first | exact (Kd.R_reads' HO_5.out).2.2 | (with_reducible refine Kd.C_alloc ?_ _) | (with_reducible refine Kd.C_drewN ?_ _) | (with_reducible refine Kd.C_drew ?_))); (case side2 => exact (Kd.R_reads' HO_5.out).2.1); rintro e w40 ⟨rfl, hb⟩; replace HO_5 := Aside0.mk (Kd.R_below (by (with_reducible repeat (first | apply Kd.R_alloc | apply Kd.R_drewN | apply Kd.R_drew)); exact HO_5.out) hb); replace aa := Aside0.mk (kcdf8.q aa.out hb rfl); replace HB := Aside0.mk (kcdf8.z HB.out hb rfl rfl rfl rfl); (try clear hb); (try clear ae); (try clear hk); (try clear hi))))
              go_ret
              exact ⟨by first | rfl | (simp [errW_none, errW_some] <;> rfl) | (simp [*, errW_none, errW_some] <;> rfl), by repeat (first | (with_reducible first | exact HB.out | apply below_alloc | apply pw_below_drewN | apply below_drew1) | exact HB.out)⟩
       ·rw [if_neg c19] at H
        have c19b0 : decide (x12_2 < (t316.length : Int)) = false := decide_eq_false c19
        clear c19
        replace H := Option.bind_eq_some_iff.mp H
        obtain ⟨⟨t327, t328⟩, A410, H⟩ := H
        (try dsimp only at H)
        have ao := Aside0.mk A410
        clear A410
        by_cases c42 : t328 = 0
        ·rw [if_pos c42] at H
         have c42b0 : (t328 == 0) = true := beq_iff_eq.mpr c42
         have c42b1 : (t328 != 0) = false := bne_eq_false_iff_eq.mpr c42
         clear c42
         replace H := Option.bind_eq_some_iff.mp H
         obtain ⟨t331, A430, H⟩ := H
         (try dsimp only at H)
         have A43 := Aside0.mk A430
         clear A430
         by_cases c44 : t331 = true
         ·subst c44
          have H1 : ((whirligiglaw02_lives.f k2).bind fun t332 => (some t332)) = some r := by rw [if_pos rfl] at H; exact H
          clear H
          have H := H1
          clear H1
          replace H := Option.bind_eq_some_iff.mp H
          obtain ⟨t332, A450, H⟩ := H
          replace H : (some t332) = some r := H
          have A45 := Aside0.mk A450
          clear A450
          obtain rfl := Option.some.inj H
          go_wp2_with (first | (go_at_call 24; (with_reducible refine (plist_Bare.calls k2 _ _ t316 t327 t328 _ ?side1 ?side2 ao.out).mono ?_); (case side1 => repeat (first | exact (Kd.R_reads' HO_5.out).2.2 | (with_reducible refine Kd.C_alloc ?_ _) | (with_reducible refine Kd.C_drewN ?_ _) | (with_reducible refine Kd.C_drew ?_))); (case side2 => exact (Kd.R_reads' HO_5.out).2.1); rintro e w46 ⟨v329, rfl, ho0, hb⟩; have n0_ := Aside0.mk (Kd.R_elder' (by (with_reducible repeat (first | apply Kd.R_alloc | apply Kd.R_drewN | apply Kd.R_drew)); exact HO_5.out) (Kd.R_base ho0) hb); have n1_ := Aside0.mk (Kd.R_lower (Kd.R_new' ho0 (Kd.R_lt (by (with_reducible repeat (first | apply Kd.R_alloc | apply Kd.R_drewN | apply Kd.R_drew)); exact HO_5.out))) (below_size (by repeat (first | (with_reducible first | exact HB.out | apply below_alloc | apply pw_below_drewN | apply below_drew1) | exact HB.out)))); have n2_ := Aside0.mk (kcdf8.q aa.out hb rfl); have n3_ := Aside0.mk (kcdf8.z HB.out hb rfl rfl rfl rfl); clear HO_5; clear aa; clear HB; have HO_5 := n0_; have ad := n1_; have aa := n2_; have HB := n3_; clear n0_ n1_ n2_ n3_; (try clear hb); (try clear ae); (try clear hk); (try clear hi); (try clear ho0); obtain ⟨Ao47, co47, eo47⟩ := Kd.R_slice ad.out; subst eo47) | (go_at_call 25; (with_reducible refine (whirligigref02_Same.calls k2 _ _ t327 _ _ t316 true _ ?side1 ?side2 ?side3 ?side4 A43.out).mono ?_); (case side1 | side3 => repeat (first | exact (Kd.R_reads' ad.out).2.2 | exact (Kd.R_reads' HO_5.out).2.2 | (with_reducible refine Kd.C_alloc ?_ _) | (with_reducible refine Kd.C_drewN ?_ _) | (with_reducible refine Kd.C_drew ?_))); (case side2 | side4 => first | exact (Kd.R_reads' ad.out).2.1 | exact (Kd.R_reads' HO_5.out).2.1); rintro e w' ⟨rfl, ⟨nd, rfl⟩⟩; (try first | exact ⟨rfl, _, World.drewN_drewN _ _ _⟩ | exact ⟨rfl, _, Eq.trans (World.drewN_drewN _ _ _) (congrArg (World.drewN _) (Nat.add_assoc _ _ _))⟩)) | (go_at_call 12; (with_reducible refine (whirligiglaw02_lives.calls k2  t332 _ A45.out).mono ?_); rintro e w48 ⟨rfl, hb⟩; replace HO_5 := Aside0.mk (Kd.R_below (by (with_reducible repeat (first | apply Kd.R_alloc | apply Kd.R_drewN | apply Kd.R_drew)); exact HO_5.out) hb); replace ad := Aside0.mk (Kd.R_below (by (with_reducible repeat (first | apply Kd.R_alloc | apply Kd.R_drewN | apply Kd.R_drew)); exact ad.out) hb); replace aa := Aside0.mk (kcdf8.q aa.out hb rfl); replace HB := Aside0.mk (kcdf8.z HB.out hb rfl rfl rfl rfl); (try clear hb); (try clear ae); (try clear hk); (try clear hi)))
          repeat (go_quiet (first | (go_at_call 24; (with_reducible refine (plist_Bare.calls k2 _ _ t316 t327 t328 _ ?side1 ?side2 ao.out).mono ?_); (case side1 => repeat (first | exact (Kd.R_reads' HO_5.out).2.2 | (with_reducible refine Kd.C_alloc ?_ _) | (with_reducible refine Kd.C_drewN ?_ _) | (with_reducible refine Kd.C_drew ?_))); (case side2 => exact (Kd.R_reads' HO_5.out).2.1); rintro e w46 ⟨v329, rfl, ho0, hb⟩; have n0_ := Aside0.mk (Kd.R_elder' (by (with_reducible repeat (first | apply Kd.R_alloc | apply Kd.R_drewN | apply Kd.R_drew)); exact HO_5.out) (Kd.R_base ho0) hb); have n1_ := Aside0.mk (Kd.R_lower (Kd.R_new' ho0 (Kd.R_lt (by (with_reducible repeat (first | apply Kd.R_alloc | apply Kd.R_drewN | apply Kd.R_drew)); exact HO_5.out))) (below_size (by repeat (first | (with_reducible first | exact HB.out | apply below_alloc | apply pw_below_drewN | apply below_drew1) | exact HB.out)))); have n2_ := Aside0.mk (kcdf8.q aa.out hb rfl); have n3_ := Aside0.mk (kcdf8.z HB.out hb rfl rfl rfl rfl); clear HO_5; clear aa; clear HB; have HO_5 := n0_; have ad := n1_; have aa := n2_; have HB := n3_; clear n0_ n1_ n2_ n3_; (try clear hb); (try clear ae); (try clear hk); (try clear hi); (try clear ho0); obtain ⟨Ao47, co47, eo47⟩ := Kd.R_slice ad.out; subst eo47) | (go_at_call 25; (with_reducible refine (whirligigref02_Same.calls k2 _ _ t327 _ _ t316 true _ ?side1 ?side2 ?side3 ?side4 A43.out).mono ?_); (case side1 | side3 => repeat (first | exact (Kd.R_reads' ad.out).2.2 | exact (Kd.R_reads' HO_5.out).2.2 | (with_reducible refine Kd.C_alloc ?_ _) | (with_reducible refine Kd.C_drewN ?_ _) | (with_reducible refine Kd.C_drew ?_))); (case side2 | side4 => first | exact (Kd.R_reads' ad.out).2.1 | exact (Kd.R_reads' HO_5.out).2.1); rintro e w' ⟨rfl, ⟨nd, rfl⟩⟩; (try first | exact ⟨rfl, _, World.drewN_drewN _ _ _⟩ | exact ⟨rfl, _, Eq.trans (World.drewN_drewN _ _ _) (congrArg (World.drewN _) (Nat.add_assoc _ _ _))⟩)) | (go_at_call 12; (with_reducible refine (whirligiglaw02_lives.calls k2  t332 _ A45.out).mono ?_); rintro e w48 ⟨rfl, hb⟩; replace HO_5 := Aside0.mk (Kd.R_below (by (with_reducible repeat (first | apply Kd.R_alloc | apply Kd.R_drewN | apply Kd.R_drew)); exact HO_5.out) hb); replace ad := Aside0.mk (Kd.R_below (by (with_reducible repeat (first | apply Kd.R_alloc | apply Kd.R_drewN | apply Kd.R_drew)); exact ad.out) hb); replace aa := Aside0.mk (kcdf8.q aa.out hb rfl); replace HB := Aside0.mk (kcdf8.z HB.out hb rfl rfl rfl rfl); (try clear hb); (try clear ae); (try clear hk); (try clear hi))); try go_wp2_with (first | (go_at_call 24; (with_reducible refine (plist_Bare.calls k2 _ _ t316 t327 t328 _ ?side1 ?side2 ao.out).mono ?_); (case side1 => repeat (first | exact (Kd.R_reads' HO_5.out).2.2 | (with_reducible refine Kd.C_alloc ?_ _) | (with_reducible refine Kd.C_drewN ?_ _) | (with_reducible refine Kd.C_drew ?_))); (case side2 => exact (Kd.R_reads' HO_5.out).2.1); rintro e w46 ⟨v329, rfl, ho0, hb⟩; have n0_ := Aside0.mk (Kd.R_elder' (by (with_reducible repeat (first | apply Kd.R_alloc | apply Kd.R_drewN | apply Kd.R_drew)); exact HO_5.out) (Kd.R_base ho0) hb); have n1_ := Aside0.mk (Kd.R_lower (Kd.R_new' ho0 (Kd.R_lt (by (with_reducible repeat (first | apply Kd.R_alloc | apply Kd.R_drewN | apply Kd.R_drew)); exact HO_5.out))) (below_size (by repeat (first | (with_reducible first | exact HB.out | apply below_alloc | apply pw_below_drewN | apply below_drew1) | exact HB.out)))); have n2_ := Aside0.mk (kcdf8.q aa.out hb rfl); have n3_ := Aside0.mk (kcdf8.z HB.out hb rfl rfl rfl rfl); clear HO_5; clear aa; clear HB; have HO_5 := n0_; have ad := n1_; have aa := n2_; have HB := n3_; clear n0_ n1_ n2_ n3_; (try clear hb); (try clear ae); (try clear hk); (try clear hi); (try clear ho0); obtain ⟨Ao47, co47, eo47⟩ := Kd.R_slice ad.out; subst eo47) | (go_at_call 25; (with_reducible refine (whirligigref02_Same.calls k2 _ _ t327 _ _ t316 true _ ?side1 ?side2 ?side3 ?side4 A43.out).mono ?_); (case side1 | side3 => repeat (first | exact (Kd.R_reads' ad.out).2.2 | exact (Kd.R_reads' HO_5.out).2.2 | (with_reducible refine Kd.C_alloc ?_ _) | (with_reducible refine Kd.C_drewN ?_ _) | (with_reducible refine Kd.C_drew ?_))); (case side2 | side4 => first | exact (Kd.R_reads' ad.out).2.1 | exact (Kd.R_reads' HO_5.out).2.1); rintro e w' ⟨rfl, ⟨nd, rfl⟩⟩; (try first | exact ⟨rfl, _, World.drewN_drewN _ _ _⟩ | exact ⟨rfl, _, Eq.trans (World.drewN_drewN _ _ _) (congrArg (World.drewN _) (Nat.add_assoc _ _ _))⟩)) | (go_at_call 12; (with_reducible refine (whirligiglaw02_lives.calls k2  t332 _ A45.out).mono ?_); rintro e w48 ⟨rfl, hb⟩; replace HO_5 := Aside0.mk (Kd.R_below (by (with_reducible repeat (first | apply Kd.R_alloc | apply Kd.R_drewN | apply Kd.R_drew)); exact HO_5.out) hb); replace ad := Aside0.mk (Kd.R_below (by (with_reducible repeat (first | apply Kd.R_alloc | apply Kd.R_drewN | apply Kd.R_drew)); exact ad.out) hb); replace aa := Aside0.mk (kcdf8.q aa.out hb rfl); replace HB := Aside0.mk (kcdf8.z HB.out hb rfl rfl rfl rfl); (try clear hb); (try clear ae); (try clear hk); (try clear hi))))
          go_ret
          exact ⟨by first | rfl | (simp [errW_none, errW_some] <;> rfl) | (simp [*, errW_none, errW_some] <;> rfl), by repeat (first | (with_reducible first | exact HB.out | apply below_alloc | apply pw_below_drewN | apply below_drew1) | exact HB.out)⟩
         ·replace c44 := Bool.eq_false_iff.mpr c44
          subst c44
          have H1 : (some false) = some r := by rw [if_neg (show ¬ (false = true) by decide)] at H; exact H
          clear H
          have H := H1
          clear H1
          obtain rfl := Option.some.inj H
          go_wp2_with (first | (go_at_call 24; (with_reducible refine (plist_Bare.calls k2 _ _ t316 t327 t328 _ ?side1 ?side2 ao.out).mono ?_); (case side1 => repeat (first | exact (Kd.R_reads' HO_5.out).2.2 | (with_reducible refine Kd.C_alloc ?_ _) | (with_reducible refine Kd.C_drewN ?_ _) | (with_reducible refine Kd.C_drew ?_))); (case side2 => exact (Kd.R_reads' HO_5.out).2.1); rintro e w49 ⟨v329, rfl, ho0, hb⟩; have n0_ := Aside0.mk (Kd.R_elder' (by (with_reducible repeat (first | apply Kd.R_alloc | apply Kd.R_drewN | apply Kd.R_drew)); exact HO_5.out) (Kd.R_base ho0) hb); have n1_ := Aside0.mk (Kd.R_lower (Kd.R_new' ho0 (Kd.R_lt (by (with_reducible repeat (first | apply Kd.R_alloc | apply Kd.R_drewN | apply Kd.R_drew)); exact HO_5.out))) (below_size (by repeat (first | (with_reducible first | exact HB.out | apply below_alloc | apply pw_below_drewN | apply below_drew1) | exact HB.out)))); have n2_ := Aside0.mk (kcdf8.q aa.out hb rfl); have n3_ := Aside0.mk (kcdf8.z HB.out hb rfl rfl rfl rfl); clear HO_5; clear aa; clear HB; have HO_5 := n0_; have ad := n1_; have aa := n2_; have HB := n3_; clear n0_ n1_ n2_ n3_; (try clear hb); (try clear ae); (try clear hk); (try clear hi); (try clear ho0); obtain ⟨Ao50, co50, eo50⟩ := Kd.R_slice ad.out; subst eo50) | (go_at_call 25; (with_reducible refine (whirligigref02_Same.calls k2 _ _ t327 _ _ t316 false _ ?side1 ?side2 ?side3 ?side4 A43.out).mono ?_); (case side1 | side3 => repeat (first | exact (Kd.R_reads' ad.out).2.2 | exact (Kd.R_reads' HO_5.out).2.2 | (with_reducible refine Kd.C_alloc ?_ _) | (with_reducible refine Kd.C_drewN ?_ _) | (with_reducible refine Kd.C_drew ?_))); (case side2 | side4 => first | exact (Kd.R_reads' ad.out).2.1 | exact (Kd.R_reads' HO_5.out).2.1); rintro e w' ⟨rfl, ⟨nd, rfl⟩⟩; (try first | exact ⟨rfl, _, World.drewN_drewN _ _ _⟩ | exact ⟨rfl, _, Eq.trans (World.drewN_drewN _ _ _) (congrArg (World.drewN _) (Nat.add_assoc _ _ _))⟩)))
          repeat (go_quiet (first | (go_at_call 24; (with_reducible refine (plist_Bare.calls k2 _ _ t316 t327 t328 _ ?side1 ?side2 ao.out).mono ?_); (case side1 => repeat (first | exact (Kd.R_reads' HO_5.out).2.2 | (with_reducible refine Kd.C_alloc ?_ _) | (with_reducible refine Kd.C_drewN ?_ _) | (with_reducible refine Kd.C_drew ?_))); (case side2 => exact (Kd.R_reads' HO_5.out).2.1); rintro e w49 ⟨v329, rfl, ho0, hb⟩; have n0_ := Aside0.mk (Kd.R_elder' (by (with_reducible repeat (first | apply Kd.R_alloc | apply Kd.R_drewN | apply Kd.R_drew)); exact HO_5.out) (Kd.R_base ho0) hb); have n1_ := Aside0.mk (Kd.R_lower (Kd.R_new' ho0 (Kd.R_lt (by (with_reducible repeat (first | apply Kd.R_alloc | apply Kd.R_drewN | apply Kd.R_drew)); exact HO_5.out))) (below_size (by repeat (first | (with_reducible first | exact HB.out | apply below_alloc | apply pw_below_drewN | apply below_drew1) | exact HB.out)))); have n2_ := Aside0.mk (kcdf8.q aa.out hb rfl); have n3_ := Aside0.mk (kcdf8.z HB.out hb rfl rfl rfl rfl); clear HO_5; clear aa; clear HB; have HO_5 := n0_; have ad := n1_; have aa := n2_; have HB := n3_; clear n0_ n1_ n2_ n3_; (try clear hb); (try clear ae); (try clear hk); (try clear hi); (try clear ho0); obtain ⟨Ao50, co50, eo50⟩ := Kd.R_slice ad.out; subst eo50) | (go_at_call 25; (with_reducible refine (whirligigref02_Same.calls k2 _ _ t327 _ _ t316 false _ ?side1 ?side2 ?side3 ?side4 A43.out).mono ?_); (case side1 | side3 => repeat (first | exact (Kd.R_reads' ad.out).2.2 | exact (Kd.R_reads' HO_5.out).2.2 | (with_reducible refine Kd.C_alloc ?_ _) | (with_reducible refine Kd.C_drewN ?_ _) | (with_reducible refine Kd.C_drew ?_))); (case side2 | side4 => first | exact (Kd.R_reads' ad.out).2.1 | exact (Kd.R_reads' HO_5.out).2.1); rintro e w' ⟨rfl, ⟨nd, rfl⟩⟩; (try first | exact ⟨rfl, _, World.drewN_drewN _ _ _⟩ | exact ⟨rfl, _, Eq.trans (World.drewN_drewN _ _ _) (congrArg (World.drewN _) (Nat.add_assoc _ _ _))⟩))); try go_wp2_with (first | (go_at_call 24; (with_reducible refine (plist_Bare.calls k2 _ _ t316 t327 t328 _ ?side1 ?side2 ao.out).mono ?_); (case side1 => repeat (first | exact (Kd.R_reads' HO_5.out).2.2 | (with_reducible refine Kd.C_alloc ?_ _) | (with_reducible refine Kd.C_drewN ?_ _) | (with_reducible refine Kd.C_drew ?_))); (case side2 => exact (Kd.R_reads' HO_5.out).2.1); rintro e w49 ⟨v329, rfl, ho0, hb⟩; have n0_ := Aside0.mk (Kd.R_elder' (by (with_reducible repeat (first | apply Kd.R_alloc | apply Kd.R_drewN | apply Kd.R_drew)); exact HO_5.out) (Kd.R_base ho0) hb); have n1_ := Aside0.mk (Kd.R_lower (Kd.R_new' ho0 (Kd.R_lt (by (with_reducible repeat (first | apply Kd.R_alloc | apply Kd.R_drewN | apply Kd.R_drew)); exact HO_5.out))) (below_size (by repeat (first | (with_reducible first | exact HB.out | apply below_alloc | apply pw_below_drewN | apply below_drew1) | exact HB.out)))); have n2_ := Aside0.mk (kcdf8.q aa.out hb rfl); have n3_ := Aside0.mk (kcdf8.z HB.out hb rfl rfl rfl rfl); clear HO_5; clear aa; clear HB; have HO_5 := n0_; have ad := n1_; have aa := n2_; have HB := n3_; clear n0_ n1_ n2_ n3_; (try clear hb); (try clear ae); (try clear hk); (try clear hi); (try clear ho0); obtain ⟨Ao50, co50, eo50⟩ := Kd.R_slice ad.out; subst eo50) | (go_at_call 25; (with_reducible refine (whirligigref02_Same.calls k2 _ _ t327 _ _ t316 false _ ?side1 ?side2 ?side3 ?side4 A43.out).mono ?_); (case side1 | side3 => repeat (first | exact (Kd.R_reads' ad.out).2.2 | exact (Kd.R_reads' HO_5.out).2.2 | (with_reducible refine Kd.C_alloc ?_ _) | (with_reducible refine Kd.C_drewN ?_ _) | (with_reducible refine Kd.C_drew ?_))); (case side2 | side4 => first | exact (Kd.R_reads' ad.out).2.1 | exact (Kd.R_reads' HO_5.out).2.1); rintro e w' ⟨rfl, ⟨nd, rfl⟩⟩; (try first | exact ⟨rfl, _, World.drewN_drewN _ _ _⟩ | exact ⟨rfl, _, Eq.trans (World.drewN_drewN _ _ _) (congrArg (World.drewN _) (Nat.add_assoc _ _ _))⟩))))
          go_ret
          exact ⟨by first | rfl | (simp [errW_none, errW_some] <;> rfl) | (simp [*, errW_none, errW_some] <;> rfl), by repeat (first | (with_reducible first | exact HB.out | apply below_alloc | apply pw_below_drewN | apply below_drew1) | exact HB.out)⟩
        ·rw [if_neg c42] at H
         have c42b0 : (t328 == 0) = false := beq_eq_false_iff_ne.mpr c42
         have c42b1 : (t328 != 0) = true := bne_iff_ne.mpr c42
         obtain rfl := Option.some.inj H
         go_wp2_with (first | (go_at_call 24; (with_reducible refine (plist_Bare.calls k2 _ _ t316 t327 t328 _ ?side1 ?side2 ao.out).mono ?_); (case side1 => repeat (first | exact (Kd.R_reads' HO_5.out).2.2 | (with_reducible refine Kd.C_alloc ?_ _) | (with_reducible refine Kd.C_drewN ?_ _) | (with_reducible refine Kd.C_drew ?_))); (case side2 => exact (Kd.R_reads' HO_5.out).2.1); rintro e w51 ⟨v329, rfl, ho0, hb⟩; have n0_ := Aside0.mk (Kd.R_elder' (by (with_reducible repeat (first | apply Kd.R_alloc | apply Kd.R_drewN | apply Kd.R_drew)); exact HO_5.out) (Kd.R_base ho0) hb); have n1_ := Aside0.mk (Kd.R_lower (Kd.R_new' ho0 (Kd.R_lt (by (with_reducible repeat (first | apply Kd.R_alloc | apply Kd.R_drewN | apply Kd.R_drew)); exact HO_5.out))) (below_size (by repeat (first | (with_reducible first | exact HB.out | apply below_alloc | apply pw_below_drewN | apply below_drew1) | exact HB.out)))); have n2_ := Aside0.mk (kcdf8.q aa.out hb rfl); have n3_ := Aside0.mk (kcdf8.z HB.out hb rfl rfl rfl rfl); clear HO_5; clear aa; clear HB; have HO_5 := n0_; have ad := n1_; have aa := n2_; have HB := n3_; clear n0_ n1_ n2_ n3_; (try clear hb); (try clear ae); (try clear hk); (try clear hi); (try clear ho0)))
         repeat (go_quiet (first | (go_at_call 24; (with_reducible refine (plist_Bare.calls k2 _ _ t316 t327 t328 _ ?side1 ?side2 ao.out).mono ?_); (case side1 => repeat (first | exact (Kd.R_reads' HO_5.out).2.2 | (with_reducible refine Kd.C_alloc ?_ _) | (with_reducible refine Kd.C_drewN ?_ _) | (with_reducible refine Kd.C_drew ?_))); (case side2 => exact (Kd.R_reads' HO_5.out).2.1); rintro e w51 ⟨v329, rfl, ho0, hb⟩; have n0_ := Aside0.mk (Kd.R_elder' (by (with_reducible repeat (first | apply Kd.R_alloc | apply Kd.R_drewN | apply Kd.R_drew)); exact HO_5.out) (Kd.R_base ho0) hb); have n1_ := Aside0.mk (Kd.R_lower (Kd.R_new' ho0 (Kd.R_lt (by (with_reducible repeat (first | apply Kd.R_alloc | apply Kd.R_drewN | apply Kd.R_drew)); exact HO_5.out))) (below_size (by repeat (first | (with_reducible first | exact HB.out | apply below_alloc | apply pw_below_drewN | apply below_drew1) | exact HB.out)))); have n2_ := Aside0.mk (kcdf8.q aa.out hb rfl); have n3_ := Aside0.mk (kcdf8.z HB.out hb rfl rfl rfl rfl); clear HO_5; clear aa; clear HB; have HO_5 := n0_; have ad := n1_; have aa := n2_; have HB := n3_; clear n0_ n1_ n2_ n3_; (try clear hb); (try clear ae); (try clear hk); (try clear hi); (try clear ho0))); try go_wp2_with (first | (go_at_call 24; (with_reducible refine (plist_Bare.calls k2 _ _ t316 t327 t328 _ ?side1 ?side2 ao.out).mono ?_); (case side1 => repeat (first | exact (Kd.R_reads' HO_5.out).2.2 | (with_reducible refine Kd.C_alloc ?_ _) | (with_reducible refine Kd.C_drewN ?_ _) | (with_reducible refine Kd.C_drew ?_))); (case side2 => exact (Kd.R_reads' HO_5.out).2.1); rintro e w51 ⟨v329, rfl, ho0, hb⟩; have n0_ := Aside0.mk (Kd.R_elder' (by (with_reducible repeat (first | apply Kd.R_alloc | apply Kd.R_drewN | apply Kd.R_drew)); exact HO_5.out) (Kd.R_base ho0) hb); have n1_ := Aside0.mk (Kd.R_lower (Kd.R_new' ho0 (Kd.R_lt (by (with_reducible repeat (first | apply Kd.R_alloc | apply Kd.R_drewN | apply Kd.R_drew)); exact HO_5.out))) (below_size (by repeat (first | (with_reducible first | exact HB.out | apply below_alloc | apply pw_below_drewN | apply below_drew1) | exact HB.out)))); have n2_ := Aside0.mk (kcdf8.q aa.out hb rfl); have n3_ := Aside0.mk (kcdf8.z HB.out hb rfl rfl rfl rfl); clear HO_5; clear aa; clear HB; have HO_5 := n0_; have ad := n1_; have aa := n2_; have HB := n3_; clear n0_ n1_ n2_ n3_; (try clear hb); (try clear ae); (try clear hk); (try clear hi); (try clear ho0))))
         go_ret
         exact ⟨by first | rfl | (simp [errW_none, errW_some] <;> rfl) | (simp [*, errW_none, errW_some] <;> rfl), by repeat (first | (with_reducible first | exact HB.out | apply below_alloc | apply pw_below_drewN | apply below_drew1) | exact HB.out)⟩
 ·rw [if_neg c5] at H
  have c5b0 : (t320 == 0) = false := beq_eq_false_iff_ne.mpr c5
  have c5b1 : (t320 != 0) = true := bne_iff_ne.mpr c5
  by_cases ap : (t316.length : Int) = 0
  ·rw [if_pos ap] at H
   have c52b0 : ((t316.length : Int) == 0) = true := beq_iff_eq.mpr ap
   have c52b1 : ((t316.length : Int) != 0) = false := bne_eq_false_iff_eq.mpr ap
   clear ap
   replace H := Option.bind_eq_some_iff.mp H
   obtain ⟨t321, A530, H⟩ := H
   (try dsimp only at H)
   have A53 := Aside0.mk A530
   clear A530
   by_cases c54 : t317 = t321
   ·rw [if_pos c54] at H
    have c54b0 : (t317 == t321) = true := beq_iff_eq.mpr c54
    have c54b1 : (t317 != t321) = false := bne_eq_false_iff_eq.mpr c54
    clear c54
    replace H := Option.bind_eq_some_iff.mp H
    obtain ⟨t322, A550, H⟩ := H
    replace H : (some t322) = some r := H
    have A55 := Aside0.mk A550
    clear A550
    obtain rfl := Option.some.inj H
    go_enter Try.func7, Try.ntmps7
    go_wp2_with (first | ((with_reducible refine gate_dst (N := 3) rfl ?_); refine box_event ?hg (N := 3) ?hd (cs := #[.int .u32 af, .int .i64 ag]) (t := 24) ?hr ?_; (case hd => rfl); (case hg => rfl); (case hr => first | (go_simp; done) | (go_simp; rfl)); intro ac hg w56 hbox hb; have n0_ := Aside0.mk (kcdf8.z HB.out hb rfl rfl rfl rfl); have n1_ := Aside0.mk (hbox); have n2_ := Aside0.mk ((by rw [hg]; exact (below_size (by repeat (first | (with_reducible first | exact HB.out | apply below_alloc | apply pw_below_drewN | apply below_drew1) | exact HB.out))) : w.heap.size ≤ ac)); have n3_ := Aside0.mk ((by rw [hg]; exact (below_size (by repeat (first | (with_reducible first | exact HB.out | apply below_alloc | apply pw_below_drewN | apply below_drew1) | exact HB.out))) : w.heap.size ≤ ac)); clear HB; have HB := n0_; have aa := n1_; have ai := n2_; have aj := n3_; clear n0_ n1_ n2_ n3_; clear hb hbox hg) | (go_at_call 24; (with_reducible refine (plist_Bare.calls k _ _ l0 t316 t317 _ ?side1 ?side2 A3.out).mono ?_); (case side1 => repeat (first | exact (Kd.C_below ah.out HB.out) | (with_reducible refine Kd.C_alloc ?_ _) | (with_reducible refine Kd.C_drewN ?_ _) | (with_reducible refine Kd.C_drew ?_))); (case side2 => exact ak.out); rintro e w57 ⟨v318, rfl, ho0, hb⟩; have ab := Aside0.mk (Kd.R_lower ho0 (below_size (by repeat (first | (with_reducible first | exact HB.out | apply below_alloc | apply pw_below_drewN | apply below_drew1) | exact HB.out)))); replace aa := Aside0.mk (kcdf8.q aa.out hb rfl); replace HB := Aside0.mk (kcdf8.z HB.out hb rfl rfl rfl rfl); (try clear hb); (try clear ae); (try clear hk); (try clear hi); (try clear ho0)) | (go_at_call 15; (with_reducible refine (plist_May.calls k _ _ l0 t320 _ ?side1 ?side2 A4.out).mono ?_); (case side1 => repeat (first | exact (Kd.C_below ah.out HB.out) | (with_reducible refine Kd.C_alloc ?_ _) | (with_reducible refine Kd.C_drewN ?_ _) | (with_reducible refine Kd.C_drew ?_))); (case side2 => exact ak.out); rintro e w58 ⟨rfl, hb⟩; replace ab := Aside0.mk (Kd.R_below (by (with_reducible repeat (first | apply Kd.R_alloc | apply Kd.R_drewN | apply Kd.R_drew)); exact ab.out) hb); replace aa := Aside0.mk (kcdf8.q aa.out hb rfl); replace HB := Aside0.mk (kcdf8.z HB.out hb rfl rfl rfl rfl); (try clear hb); (try clear ae); (try clear hk); (try clear hi); obtain ⟨Ao59, co59, eo59⟩ := Kd.R_slice ab.out; subst eo59) | (go_at_call 15; (with_reducible refine (plist_May.calls k _ _ l0 t321 _ ?side1 ?side2 A53.out).mono ?_); (case side1 => repeat (first | exact (Kd.C_below ah.out HB.out) | (with_reducible refine Kd.C_alloc ?_ _) | (with_reducible refine Kd.C_drewN ?_ _) | (with_reducible refine Kd.C_drew ?_))); (case side2 => exact ak.out); rintro e w60 ⟨rfl, hb⟩; replace ab := Aside0.mk (Kd.R_below (by (with_reducible repeat (first | apply Kd.R_alloc | apply Kd.R_drewN | apply Kd.R_drew)); exact ab.out) hb); replace aa := Aside0.mk (kcdf8.q aa.out hb rfl); replace HB := Aside0.mk (kcdf8.z HB.out hb rfl rfl rfl rfl); (try clear hb); (try clear ae); (try clear hk); (try clear hi)) | (go_at_call 12; (with_reducible refine (whirligiglaw02_lives.calls k  t322 _ A55.out).mono ?_); rintro e w61 ⟨rfl, hb⟩; replace ab := Aside0.mk (Kd.R_below (by (with_reducible repeat (first | apply Kd.R_alloc | apply Kd.R_drewN | apply Kd.R_drew)); exact ab.out) hb); replace aa := Aside0.mk (kcdf8.q aa.out hb rfl); replace HB := Aside0.mk (kcdf8.z HB.out hb rfl rfl rfl rfl); (try clear hb); (try clear ae); (try clear hk); (try clear hi)))
    repeat (go_quiet (first | ((with_reducible refine gate_dst (N := 3) rfl ?_); refine box_event ?hg (N := 3) ?hd (cs := #[.int .u32 af, .int .i64 ag]) (t := 24) ?hr ?_; (case hd => rfl); (case hg => rfl); (case hr => first | (go_simp; done) | (go_simp; rfl)); intro ac hg w56 hbox hb; have n0_ := Aside0.mk (kcdf8.z HB.out hb rfl rfl rfl rfl); have n1_ := Aside0.mk (hbox); have n2_ := Aside0.mk ((by rw [hg]; exact (below_size (by repeat (first | (with_reducible first | exact HB.out | apply below_alloc | apply pw_below_drewN | apply below_drew1) | exact HB.out))) : w.heap.size ≤ ac)); have n3_ := Aside0.mk ((by rw [hg]; exact (below_size (by repeat (first | (with_reducible first | exact HB.out | apply below_alloc | apply pw_below_drewN | apply below_drew1) | exact HB.out))) : w.heap.size ≤ ac)); clear HB; have HB := n0_; have aa := n1_; have ai := n2_; have aj := n3_; clear n0_ n1_ n2_ n3_; clear hb hbox hg) | (go_at_call 24; (with_reducible refine (plist_Bare.calls k _ _ l0 t316 t317 _ ?side1 ?side2 A3.out).mono ?_); (case side1 => repeat (first | exact (Kd.C_below ah.out HB.out) | (with_reducible refine Kd.C_alloc ?_ _) | (with_reducible refine Kd.C_drewN ?_ _) | (with_reducible refine Kd.C_drew ?_))); (case side2 => exact ak.out); rintro e w57 ⟨v318, rfl, ho0, hb⟩; have ab := Aside0.mk (Kd.R_lower ho0 (below_size (by repeat (first | (with_reducible first | exact HB.out | apply below_alloc | apply pw_below_drewN | apply below_drew1) | exact HB.out)))); replace aa := Aside0.mk (kcdf8.q aa.out hb rfl); replace HB := Aside0.mk (kcdf8.z HB.out hb rfl rfl rfl rfl); (try clear hb); (try clear ae); (try clear hk); (try clear hi); (try clear ho0)) | (go_at_call 15; (with_reducible refine (plist_May.calls k _ _ l0 t320 _ ?side1 ?side2 A4.out).mono ?_); (case side1 => repeat (first | exact (Kd.C_below ah.out HB.out) | (with_reducible refine Kd.C_alloc ?_ _) | (with_reducible refine Kd.C_drewN ?_ _) | (with_reducible refine Kd.C_drew ?_))); (case side2 => exact ak.out); rintro e w58 ⟨rfl, hb⟩; replace ab := Aside0.mk (Kd.R_below (by (with_reducible repeat (first | apply Kd.R_alloc | apply Kd.R_drewN | apply Kd.R_drew)); exact ab.out) hb); replace aa := Aside0.mk (kcdf8.q aa.out hb rfl); replace HB := Aside0.mk (kcdf8.z HB.out hb rfl rfl rfl rfl); (try clear hb); (try clear ae); (try clear hk); (try clear hi); obtain ⟨Ao59, co59, eo59⟩ := Kd.R_slice ab.out; subst eo59) | (go_at_call 15; (with_reducible refine (plist_May.calls k _ _ l0 t321 _ ?side1 ?side2 A53.out).mono ?_); (case side1 => repeat (first | exact (Kd.C_below ah.out HB.out) | (with_reducible refine Kd.C_alloc ?_ _) | (with_reducible refine Kd.C_drewN ?_ _) | (with_reducible refine Kd.C_drew ?_))); (case side2 => exact ak.out); rintro e w60 ⟨rfl, hb⟩; replace ab := Aside0.mk (Kd.R_below (by (with_reducible repeat (first | apply Kd.R_alloc | apply Kd.R_drewN | apply Kd.R_drew)); exact ab.out) hb); replace aa := Aside0.mk (kcdf8.q aa.out hb rfl); replace HB := Aside0.mk (kcdf8.z HB.out hb rfl rfl rfl rfl); (try clear hb); (try clear ae); (try clear hk); (try clear hi)) | (go_at_call 12; (with_reducible refine (whirligiglaw02_lives.calls k  t322 _ A55.out).mono ?_); rintro e w61 ⟨rfl, hb⟩; replace ab := Aside0.mk (Kd.R_below (by (with_reducible repeat (first | apply Kd.R_alloc | apply Kd.R_drewN | apply Kd.R_drew)); exact ab.out) hb); replace aa := Aside0.mk (kcdf8.q aa.out hb rfl); replace HB := Aside0.mk (kcdf8.z HB.out hb rfl rfl rfl rfl); (try clear hb); (try clear ae); (try clear hk); (try clear hi))); try go_wp2_with (first | ((with_reducible refine gate_dst (N := 3) rfl ?_); refine box_event ?hg (N := 3) ?hd (cs := #[.int .u32 af, .int .i64 ag]) (t := 24) ?hr ?_; (case hd => rfl); (case hg => rfl); (case hr => first | (go_simp; done) | (go_simp; rfl)); intro ac hg w56 hbox hb; have n0_ := Aside0.mk (kcdf8.z HB.out hb rfl rfl rfl rfl); have n1_ := Aside0.mk (hbox); have n2_ := Aside0.mk ((by rw [hg]; exact (below_size (by repeat (first | (with_reducible first | exact HB.out | apply below_alloc | apply pw_below_drewN | apply below_drew1) | exact HB.out))) : w.heap.size ≤ ac)); have n3_ := Aside0.mk ((by rw [hg]; exact (below_size (by repeat (first | (with_reducible first | exact HB.out | apply below_alloc | apply pw_below_drewN | apply below_drew1) | exact HB.out))) : w.heap.size ≤ ac)); clear HB; have HB := n0_; have aa := n1_; have ai := n2_; have aj := n3_; clear n0_ n1_ n2_ n3_; clear hb hbox hg) | (go_at_call 24; (with_reducible refine (plist_Bare.calls k _ _ l0 t316 t317 _ ?side1 ?side2 A3.out).mono ?_); (case side1 => repeat (first | exact (Kd.C_below ah.out HB.out) | (with_reducible refine Kd.C_alloc ?_ _) | (with_reducible refine Kd.C_drewN ?_ _) | (with_reducible refine Kd.C_drew ?_))); (case side2 => exact ak.out); rintro e w57 ⟨v318, rfl, ho0, hb⟩; have ab := Aside0.mk (Kd.R_lower ho0 (below_size (by repeat (first | (with_reducible first | exact HB.out | apply below_alloc | apply pw_below_drewN | apply below_drew1) | exact HB.out)))); replace aa := Aside0.mk (kcdf8.q aa.out hb rfl); replace HB := Aside0.mk (kcdf8.z HB.out hb rfl rfl rfl rfl); (try clear hb); (try clear ae); (try clear hk); (try clear hi); (try clear ho0)) | (go_at_call 15; (with_reducible refine (plist_May.calls k _ _ l0 t320 _ ?side1 ?side2 A4.out).mono ?_); (case side1 => repeat (first | exact (Kd.C_below ah.out HB.out) | (with_reducible refine Kd.C_alloc ?_ _) | (with_reducible refine Kd.C_drewN ?_ _) | (with_reducible refine Kd.C_drew ?_))); (case side2 => exact ak.out); rintro e w58 ⟨rfl, hb⟩; replace ab := Aside0.mk (Kd.R_below (by (with_reducible repeat (first | apply Kd.R_alloc | apply Kd.R_drewN | apply Kd.R_drew)); exact ab.out) hb); replace aa := Aside0.mk (kcdf8.q aa.out hb rfl); replace HB := Aside0.mk (kcdf8.z HB.out hb rfl rfl rfl rfl); (try clear hb); (try clear ae); (try clear hk); (try clear hi); obtain ⟨Ao59, co59, eo59⟩ := Kd.R_slice ab.out; subst eo59) | (go_at_call 15; (with_reducible refine (plist_May.calls k _ _ l0 t321 _ ?side1 ?side2 A53.out).mono ?_); (case side1 => repeat (first | exact (Kd.C_below ah.out HB.out) | (with_reducible refine Kd.C_alloc ?_ _) | (with_reducible refine Kd.C_drewN ?_ _) | (with_reducible refine Kd.C_drew ?_))); (case side2 => exact ak.out); rintro e w60 ⟨rfl, hb⟩; replace ab := Aside0.mk (Kd.R_below (by (with_reducible repeat (first | apply Kd.R_alloc | apply Kd.R_drewN | apply Kd.R_drew)); exact ab.out) hb); replace aa := Aside0.mk (kcdf8.q aa.out hb rfl); replace HB := Aside0.mk (kcdf8.z HB.out hb rfl rfl rfl rfl); (try clear hb); (try clear ae); (try clear hk); (try clear hi)) | (go_at_call 12; (with_reducible refine (whirligiglaw02_lives.calls k  t322 _ A55.out).mono ?_); rintro e w61 ⟨rfl, hb⟩; replace ab := Aside0.mk (Kd.R_below (by (with_reducible repeat (first | apply Kd.R_alloc | apply Kd.R_drewN | apply Kd.R_drew)); exact ab.out) hb); replace aa := Aside0.mk (kcdf8.q aa.out hb rfl); replace HB := Aside0.mk (kcdf8.z HB.out hb rfl rfl rfl rfl); (try clear hb); (try clear ae); (try clear hk); (try clear hi))))
    go_ret
    exact ⟨by first | rfl | (simp [errW_none, errW_some] <;> rfl) | (simp [*, errW_none, errW_some] <;> rfl), by repeat (first | (with_reducible first | exact HB.out | apply below_alloc | apply pw_below_drewN | apply below_drew1) | exact HB.out)⟩
   ·rw [if_neg c54] at H
    have c54b0 : (t317 == t321) = false := beq_eq_false_iff_ne.mpr c54
    have c54b1 : (t317 != t321) = true := bne_iff_ne.mpr c54
    obtain rfl := Option.some.inj H
    go_enter Try.func7, Try.ntmps7
    go_wp2_with (first | ((with_reducible refine gate_dst (N := 3) rfl ?_); refine box_event ?hg (N := 3) ?hd (cs := #[.int .u32 af, .int .i64 ag]) (t := 24) ?hr ?_; (case hd => rfl); (case hg => rfl); (case hr => first | (go_simp; done) | (go_simp; rfl)); intro ac hg w62 hbox hb; have n0_ := Aside0.mk (kcdf8.z HB.out hb rfl rfl rfl rfl); have n1_ := Aside0.mk (hbox); have n2_ := Aside0.mk ((by rw [hg]; exact (below_size (by repeat (first | (with_reducible first | exact HB.out | apply below_alloc | apply pw_below_drewN | apply below_drew1) | exact HB.out))) : w.heap.size ≤ ac)); have n3_ := Aside0.mk ((by rw [hg]; exact (below_size (by repeat (first | (with_reducible first | exact HB.out | apply below_alloc | apply pw_below_drewN | apply below_drew1) | exact HB.out))) : w.heap.size ≤ ac)); clear HB; have HB := n0_; have aa := n1_; have ai := n2_; have aj := n3_; clear n0_ n1_ n2_ n3_; clear hb hbox hg) | (go_at_call 24; (with_reducible refine (plist_Bare.calls k _ _ l0 t316 t317 _ ?side1 ?side2 A3.out).mono ?_); (case side1 => repeat (first | exact (Kd.C_below ah.out HB.out) | (with_reducible refine Kd.C_alloc ?_ _) | (with_reducible refine Kd.C_drewN ?_ _) | (with_reducible refine Kd.C_drew ?_))); (case side2 => exact ak.out); rintro e w63 ⟨v318, rfl, ho0, hb⟩; have ab := Aside0.mk (Kd.R_lower ho0 (below_size (by repeat (first | (with_reducible first | exact HB.out | apply below_alloc | apply pw_below_drewN | apply below_drew1) | exact HB.out)))); replace aa := Aside0.mk (kcdf8.q aa.out hb rfl); replace HB := Aside0.mk (kcdf8.z HB.out hb rfl rfl rfl rfl); (try clear hb); (try clear ae); (try clear hk); (try clear hi); (try clear ho0)) | (go_at_call 15; (with_reducible refine (plist_May.calls k _ _ l0 t320 _ ?side1 ?side2 A4.out).mono ?_); (case side1 => repeat (first | exact (Kd.C_below ah.out HB.out) | (with_reducible refine Kd.C_alloc ?_ _) | (with_reducible refine Kd.C_drewN ?_ _) | (with_reducible refine Kd.C_drew ?_))); (case side2 => exact ak.out); rintro e w64 ⟨rfl, hb⟩; replace ab := Aside0.mk (Kd.R_below (by (with_reducible repeat (first | apply Kd.R_alloc | apply Kd.R_drewN | apply Kd.R_drew)); exact ab.out) hb); replace aa := Aside0.mk (kcdf8.q aa.out hb rfl); replace HB := Aside0.mk (kcdf8.z HB.out hb rfl rfl rfl rfl); (try clear hb); (try clear ae); (try clear hk); (try clear hi); obtain ⟨Ao65, co65, eo65⟩ := Kd.R_slice ab.out; subst eo65) | (go_at_call 15; (with_reducible refine (plist_May.calls k _ _ l0 t321 _ ?side1 ?side2 A53.out).mono ?_); (case side1 => repeat (first | exact (Kd.C_below ah.out HB.out) | (with_reducible refine Kd.C_alloc ?_ _) | (with_reducible refine Kd.C_drewN ?_ _) | (with_reducible refine Kd.C_drew ?_))); (case side2 => exact ak.out); rintro e w66 ⟨rfl, hb⟩; replace ab := Aside0.mk (Kd.R_below (by (with_reducible repeat (first | apply Kd.R_alloc | apply Kd.R_drewN | apply Kd.R_drew)); exact ab.out) hb); replace aa := Aside0.mk (kcdf8.q aa.out hb rfl); replace HB := Aside0.mk (kcdf8.z HB.out hb rfl rfl rfl rfl); (try clear hb); (try clear ae); (try clear hk); (try clear hi)))
    repeat (go_quiet (first | ((with_reducible refine gate_dst (N := 3) rfl ?_); refine box_event ?hg (N := 3) ?hd (cs := #[.int .u32 af, .int .i64 ag]) (t := 24) ?hr ?_; (case hd => rfl); (case hg => rfl); (case hr => first | (go_simp; done) | (go_simp; rfl)); intro ac hg w62 hbox hb; have n0_ := Aside0.mk (kcdf8.z HB.out hb rfl rfl rfl rfl); have n1_ := Aside0.mk (hbox); have n2_ := Aside0.mk ((by rw [hg]; exact (below_size (by repeat (first | (with_reducible first | exact HB.out | apply below_alloc | apply pw_below_drewN | apply below_drew1) | exact HB.out))) : w.heap.size ≤ ac)); have n3_ := Aside0.mk ((by rw [hg]; exact (below_size (by repeat (first | (with_reducible first | exact HB.out | apply below_alloc | apply pw_below_drewN | apply below_drew1) | exact HB.out))) : w.heap.size ≤ ac)); clear HB; have HB := n0_; have aa := n1_; have ai := n2_; have aj := n3_; clear n0_ n1_ n2_ n3_; clear hb hbox hg) | (go_at_call 24; (with_reducible refine (plist_Bare.calls k _ _ l0 t316 t317 _ ?side1 ?side2 A3.out).mono ?_); (case side1 => repeat (first | exact (Kd.C_below ah.out HB.out) | (with_reducible refine Kd.C_alloc ?_ _) | (with_reducible refine Kd.C_drewN ?_ _) | (with_reducible refine Kd.C_drew ?_))); (case side2 => exact ak.out); rintro e w63 ⟨v318, rfl, ho0, hb⟩; have ab := Aside0.mk (Kd.R_lower ho0 (below_size (by repeat (first | (with_reducible first | exact HB.out | apply below_alloc | apply pw_below_drewN | apply below_drew1) | exact HB.out)))); replace aa := Aside0.mk (kcdf8.q aa.out hb rfl); replace HB := Aside0.mk (kcdf8.z HB.out hb rfl rfl rfl rfl); (try clear hb); (try clear ae); (try clear hk); (try clear hi); (try clear ho0)) | (go_at_call 15; (with_reducible refine (plist_May.calls k _ _ l0 t320 _ ?side1 ?side2 A4.out).mono ?_); (case side1 => repeat (first | exact (Kd.C_below ah.out HB.out) | (with_reducible refine Kd.C_alloc ?_ _) | (with_reducible refine Kd.C_drewN ?_ _) | (with_reducible refine Kd.C_drew ?_))); (case side2 => exact ak.out); rintro e w64 ⟨rfl, hb⟩; replace ab := Aside0.mk (Kd.R_below (by (with_reducible repeat (first | apply Kd.R_alloc | apply Kd.R_drewN | apply Kd.R_drew)); exact ab.out) hb); replace aa := Aside0.mk (kcdf8.q aa.out hb rfl); replace HB := Aside0.mk (kcdf8.z HB.out hb rfl rfl rfl rfl); (try clear hb); (try clear ae); (try clear hk); (try clear hi); obtain ⟨Ao65, co65, eo65⟩ := Kd.R_slice ab.out; subst eo65) | (go_at_call 15; (with_reducible refine (plist_May.calls k _ _ l0 t321 _ ?side1 ?side2 A53.out).mono ?_); (case side1 => repeat (first | exact (Kd.C_below ah.out HB.out) | (with_reducible refine Kd.C_alloc ?_ _) | (with_reducible refine Kd.C_drewN ?_ _) | (with_reducible refine Kd.C_drew ?_))); (case side2 => exact ak.out); rintro e w66 ⟨rfl, hb⟩; replace ab := Aside0.mk (Kd.R_below (by (with_reducible repeat (first | apply Kd.R_alloc | apply Kd.R_drewN | apply Kd.R_drew)); exact ab.out) hb); replace aa := Aside0.mk (kcdf8.q aa.out hb rfl); replace HB := Aside0.mk (kcdf8.z HB.out hb rfl rfl rfl rfl); (try clear hb); (try clear ae); (try clear hk); (try clear hi))); try go_wp2_with (first | ((with_reducible refine gate_dst (N := 3) rfl ?_); refine box_event ?hg (N := 3) ?hd (cs := #[.int .u32 af, .int .i64 ag]) (t := 24) ?hr ?_; (case hd => rfl); (case hg => rfl); (case hr => first | (go_simp; done) | (go_simp; rfl)); intro ac hg w62 hbox hb; have n0_ := Aside0.mk (kcdf8.z HB.out hb rfl rfl rfl rfl); have n1_ := Aside0.mk (hbox); have n2_ := Aside0.mk ((by rw [hg]; exact (below_size (by repeat (first | (with_reducible first | exact HB.out | apply below_alloc | apply pw_below_drewN | apply below_drew1) | exact HB.out))) : w.heap.size ≤ ac)); have n3_ := Aside0.mk ((by rw [hg]; exact (below_size (by repeat (first | (with_reducible first | exact HB.out | apply below_alloc | apply pw_below_drewN | apply below_drew1) | exact HB.out))) : w.heap.size ≤ ac)); clear HB; have HB := n0_; have aa := n1_; have ai := n2_; have aj := n3_; clear n0_ n1_ n2_ n3_; clear hb hbox hg) | (go_at_call 24; (with_reducible refine (plist_Bare.calls k _ _ l0 t316 t317 _ ?side1 ?side2 A3.out).mono ?_); (case side1 => repeat (first | exact (Kd.C_below ah.out HB.out) | (with_reducible refine Kd.C_alloc ?_ _) | (with_reducible refine Kd.C_drewN ?_ _) | (with_reducible refine Kd.C_drew ?_))); (case side2 => exact ak.out); rintro e w63 ⟨v318, rfl, ho0, hb⟩; have ab := Aside0.mk (Kd.R_lower ho0 (below_size (by repeat (first | (with_reducible first | exact HB.out | apply below_alloc | apply pw_below_drewN | apply below_drew1) | exact HB.out)))); replace aa := Aside0.mk (kcdf8.q aa.out hb rfl); replace HB := Aside0.mk (kcdf8.z HB.out hb rfl rfl rfl rfl); (try clear hb); (try clear ae); (try clear hk); (try clear hi); (try clear ho0)) | (go_at_call 15; (with_reducible refine (plist_May.calls k _ _ l0 t320 _ ?side1 ?side2 A4.out).mono ?_); (case side1 => repeat (first | exact (Kd.C_below ah.out HB.out) | (with_reducible refine Kd.C_alloc ?_ _) | (with_reducible refine Kd.C_drewN ?_ _) | (with_reducible refine Kd.C_drew ?_))); (case side2 => exact ak.out); rintro e w64 ⟨rfl, hb⟩; replace ab := Aside0.mk (Kd.R_below (by (with_reducible repeat (first | apply Kd.R_alloc | apply Kd.R_drewN | apply Kd.R_drew)); exact ab.out) hb); replace aa := Aside0.mk (kcdf8.q aa.out hb rfl); replace HB := Aside0.mk (kcdf8.z HB.out hb rfl rfl rfl rfl); (try clear hb); (try clear ae); (try clear hk); (try clear hi); obtain ⟨Ao65, co65, eo65⟩ := Kd.R_slice ab.out; subst eo65) | (go_at_call 15; (with_reducible refine (plist_May.calls k _ _ l0 t321 _ ?side1 ?side2 A53.out).mono ?_); (case side1 => repeat (first | exact (Kd.C_below ah.out HB.out) | (with_reducible refine Kd.C_alloc ?_ _) | (with_reducible refine Kd.C_drewN ?_ _) | (with_reducible refine Kd.C_drew ?_))); (case side2 => exact ak.out); rintro e w66 ⟨rfl, hb⟩; replace ab := Aside0.mk (Kd.R_below (by (with_reducible repeat (first | apply Kd.R_alloc | apply Kd.R_drewN | apply Kd.R_drew)); exact ab.out) hb); replace aa := Aside0.mk (kcdf8.q aa.out hb rfl); replace HB := Aside0.mk (kcdf8.z HB.out hb rfl rfl rfl rfl); (try clear hb); (try clear ae); (try clear hk); (try clear hi))))
    go_ret
    exact ⟨by first | rfl | (simp [errW_none, errW_some] <;> rfl) | (simp [*, errW_none, errW_some] <;> rfl), by repeat (first | (with_reducible first | exact HB.out | apply below_alloc | apply pw_below_drewN | apply below_drew1) | exact HB.out)⟩
  ·rw [if_neg ap] at H
   have c52b0 : ((t316.length : Int) == 0) = false := beq_eq_false_iff_ne.mpr ap
   have c52b1 : ((t316.length : Int) != 0) = true := bne_iff_ne.mpr ap
   have c52b2 : ¬ (t316 = []) := fun h_ => ap (by rw [h_]; rfl)
   obtain rfl := Option.some.inj H
   go_enter Try.func7, Try.ntmps7
   go_wp2_with (first | ((with_reducible refine gate_dst (N := 3) rfl ?_); refine box_event ?hg (N := 3) ?hd (cs := #[.int .u32 af, .int .i64 ag]) (t := 24) ?hr ?_; (case hd => rfl); (case hg => rfl); (case hr => first | (go_simp; done) | (go_simp; rfl)); intro ac hg w67 hbox hb; have n0_ := Aside0.mk (kcdf8.z HB.out hb rfl rfl rfl rfl); have n1_ := Aside0.mk (hbox); have n2_ := Aside0.mk ((by rw [hg]; exact (below_size (by repeat (first | (with_reducible first | exact HB.out | apply below_alloc | apply pw_below_drewN | apply below_drew1) | exact HB.out))) : w.heap.size ≤ ac)); have n3_ := Aside0.mk ((by rw [hg]; exact (below_size (by repeat (first | (with_reducible first | exact HB.out | apply below_alloc | apply pw_below_drewN | apply below_drew1) | exact HB.out))) : w.heap.size ≤ ac)); clear HB; have HB := n0_; have aa := n1_; have ai := n2_; have aj := n3_; clear n0_ n1_ n2_ n3_; clear hb hbox hg) | (go_at_call 24; (with_reducible refine (plist_Bare.calls k _ _ l0 t316 t317 _ ?side1 ?side2 A3.out).mono ?_); (case side1 => repeat (first | exact (Kd.C_below ah.out HB.out) | (with_reducible refine Kd.C_alloc ?_ _) | (with_reducible refine Kd.C_drewN ?_ _) | (with_reducible refine Kd.C_drew ?_))); (case side2 => exact ak.out); rintro e w68 ⟨v318, rfl, ho0, hb⟩; have ab := Aside0.mk (Kd.R_lower ho0 (below_size (by repeat (first | (with_reducible first | exact HB.out | apply below_alloc | apply pw_below_drewN | apply below_drew1) | exact HB.out)))); replace aa := Aside0.mk (kcdf8.q aa.out hb rfl); replace HB := Aside0.mk (kcdf8.z HB.out hb rfl rfl rfl rfl); (try clear hb); (try clear ae); (try clear hk); (try clear hi); (try clear ho0)) | (go_at_call 15; (with_reducible refine (plist_May.calls k _ _ l0 t320 _ ?side1 ?side2 A4.out).mono ?_); (case side1 => repeat (first | exact (Kd.C_below ah.out HB.out) | (with_reducible refine Kd.C_alloc ?_ _) | (with_reducible refine Kd.C_drewN ?_ _) | (with_reducible refine Kd.C_drew ?_))); (case side2 => exact ak.out); rintro e w69 ⟨rfl, hb⟩; replace ab := Aside0.mk (Kd.R_below (by (with_reducible repeat (first | apply Kd.R_alloc | apply Kd.R_drewN | apply Kd.R_drew)); exact ab.out) hb); replace aa := Aside0.mk (kcdf8.q aa.out hb rfl); replace HB := Aside0.mk (kcdf8.z HB.out hb rfl rfl rfl rfl); (try clear hb); (try clear ae); (try clear hk); (try clear hi); obtain ⟨Ao70, co70, eo70⟩ := Kd.R_slice ab.out; subst eo70))
   repeat (go_quiet (first | ((with_reducible refine gate_dst (N := 3) rfl ?_); refine box_event ?hg (N := 3) ?hd (cs := #[.int .u32 af, .int .i64 ag]) (t := 24) ?hr ?_; (case hd => rfl); (case hg => rfl); (case hr => first | (go_simp; done) | (go_simp; rfl)); intro ac hg w67 hbox hb; have n0_ := Aside0.mk (kcdf8.z HB.out hb rfl rfl rfl rfl); have n1_ := Aside0.mk (hbox); have n2_ := Aside0.mk ((by rw [hg]; exact (below_size (by repeat (first | (with_reducible first | exact HB.out | apply below_alloc | apply pw_below_drewN | apply below_drew1) | exact HB.out))) : w.heap.size ≤ ac)); have n3_ := Aside0.mk ((by rw [hg]; exact (below_size (by repeat (first | (with_reducible first | exact HB.out | apply below_alloc | apply pw_below_drewN | apply below_drew1) | exact HB.out))) : w.heap.size ≤ ac)); clear HB; have HB := n0_; have aa := n1_; have ai := n2_; have aj := n3_; clear n0_ n1_ n2_ n3_; clear hb hbox hg) | (go_at_call 24; (with_reducible refine (plist_Bare.calls k _ _ l0 t316 t317 _ ?side1 ?side2 A3.out).mono ?_); (case side1 => repeat (first | exact (Kd.C_below ah.out HB.out) | (with_reducible refine Kd.C_alloc ?_ _) | (with_reducible refine Kd.C_drewN ?_ _) | (with_reducible refine Kd.C_drew ?_))); (case side2 => exact ak.out); rintro e w68 ⟨v318, rfl, ho0, hb⟩; have ab := Aside0.mk (Kd.R_lower ho0 (below_size (by repeat (first | (with_reducible first | exact HB.out | apply below_alloc | apply pw_below_drewN | apply below_drew1) | exact HB.out)))); replace aa := Aside0.mk (kcdf8.q aa.out hb rfl); replace HB := Aside0.mk (kcdf8.z HB.out hb rfl rfl rfl rfl); (try clear hb); (try clear ae); (try clear hk); (try clear hi); (try clear ho0)) | (go_at_call 15; (with_reducible refine (plist_May.calls k _ _ l0 t320 _ ?side1 ?side2 A4.out).mono ?_); (case side1 => repeat (first | exact (Kd.C_below ah.out HB.out) | (with_reducible refine Kd.C_alloc ?_ _) | (with_reducible refine Kd.C_drewN ?_ _) | (with_reducible refine Kd.C_drew ?_))); (case side2 => exact ak.out); rintro e w69 ⟨rfl, hb⟩; replace ab := Aside0.mk (Kd.R_below (by (with_reducible repeat (first | apply Kd.R_alloc | apply Kd.R_drewN | apply Kd.R_drew)); exact ab.out) hb); replace aa := Aside0.mk (kcdf8.q aa.out hb rfl); replace HB := Aside0.mk (kcdf8.z HB.out hb rfl rfl rfl rfl); (try clear hb); (try clear ae); (try clear hk); (try clear hi); obtain ⟨Ao70, co70, eo70⟩ := Kd.R_slice ab.out; subst eo70)); try go_wp2_with (first | ((with_reducible refine gate_dst (N := 3) rfl ?_); refine box_event ?hg (N := 3) ?hd (cs := #[.int .u32 af, .int .i64 ag]) (t := 24) ?hr ?_; (case hd => rfl); (case hg => rfl); (case hr => first | (go_simp; done) | (go_simp; rfl)); intro ac hg w67 hbox hb; have n0_ := Aside0.mk (kcdf8.z HB.out hb rfl rfl rfl rfl); have n1_ := Aside0.mk (hbox); have n2_ := Aside0.mk ((by rw [hg]; exact (below_size (by repeat (first | (with_reducible first | exact HB.out | apply below_alloc | apply pw_below_drewN | apply below_drew1) | exact HB.out))) : w.heap.size ≤ ac)); have n3_ := Aside0.mk ((by rw [hg]; exact (below_size (by repeat (first | (with_reducible first | exact HB.out | apply below_alloc | apply pw_below_drewN | apply below_drew1) | exact HB.out))) : w.heap.size ≤ ac)); clear HB; have HB := n0_; have aa := n1_; have ai := n2_; have aj := n3_; clear n0_ n1_ n2_ n3_; clear hb hbox hg) | (go_at_call 24; (with_reducible refine (plist_Bare.calls k _ _ l0 t316 t317 _ ?side1 ?side2 A3.out).mono ?_); (case side1 => repeat (first | exact (Kd.C_below ah.out HB.out) | (with_reducible refine Kd.C_alloc ?_ _) | (with_reducible refine Kd.C_drewN ?_ _) | (with_reducible refine Kd.C_drew ?_))); (case side2 => exact ak.out); rintro e w68 ⟨v318, rfl, ho0, hb⟩; have ab := Aside0.mk (Kd.R_lower ho0 (below_size (by repeat (first | (with_reducible first | exact HB.out | apply below_alloc | apply pw_below_drewN | apply below_drew1) | exact HB.out)))); replace aa := Aside0.mk (kcdf8.q aa.out hb rfl); replace HB := Aside0.mk (kcdf8.z HB.out hb rfl rfl rfl rfl); (try clear hb); (try clear ae); (try clear hk); (try clear hi); (try clear ho0)) | (go_at_call 15; (with_reducible refine (plist_May.calls k _ _ l0 t320 _ ?side1 ?side2 A4.out).mono ?_); (case side1 => repeat (first | exact (Kd.C_below ah.out HB.out) | (with_reducible refine Kd.C_alloc ?_ _) | (with_reducible refine Kd.C_drewN ?_ _) | (with_reducible refine Kd.C_drew ?_))); (case side2 => exact ak.out); rintro e w69 ⟨rfl, hb⟩; replace ab := Aside0.mk (Kd.R_below (by (with_reducible repeat (first | apply Kd.R_alloc | apply Kd.R_drewN | apply Kd.R_drew)); exact ab.out) hb); replace aa := Aside0.mk (kcdf8.q aa.out hb rfl); replace HB := Aside0.mk (kcdf8.z HB.out hb rfl rfl rfl rfl); (try clear hb); (try clear ae); (try clear hk); (try clear hi); obtain ⟨Ao70, co70, eo70⟩ := Kd.R_slice ab.out; subst eo70)))
   go_ret
   exact ⟨by first | rfl | (simp [errW_none, errW_some] <;> rfl) | (simp [*, errW_none, errW_some] <;> rfl), by repeat (first | (with_reducible first | exact HB.out | apply below_alloc | apply pw_below_drewN | apply below_drew1) | exact HB.out)⟩

end Go.Proofs.Ytndcjncamdhbfaa.P

/- Printed by this session's own program (wip/tools/pr.py) out of the translation: functions of the program as plain Lean functions, and that the program's calls come to what these say. -/
import Derived.Test.YtikjfonedddlpaaPx0
import Derived.Test.YtikjfonedddlpaaPx4
import Derived.Test.YtikjfonedddlpaaPx5
import Derived.Test.YtikjfonedddlpaaPx6
import Derived.Test.YtikjfonedddlpaaPx9
import Derived.Test.YtikjfonedddlpaaPx14
import Derived.Test.YtikjfonedddlpaaPx16
import Derived.Test.YtikjfonedddlpaaPx21
import Derived.Test.YtikjfonedddlpaaPx26
namespace Go.Proofs.Ytikjfonedddlpaa.P
open Go.RowKit Go.Proofs.YtikjfonedddlpaaW.PrintWords Go.Proofs.YtikjfonedddlpaaW.PrintLast Go.Proofs.YtikjfonedddlpaaW.PrintMore
attribute [local go_sem] max2_int min2_int max_two min_two max_three min_three max_four min_four   -- for this text's walks alone
set_option linter.unusedVariables false
set_option linter.unusedSimpArgs false

/-! ### whirligiglaw03_CommBack: function 8 -/
mutual
def whirligiglaw03_CommBack.j0 : Nat → List (S23) → List (S23) → Bool → Int → Int → Option (Bool)
  | 0, _, _, _, _, _ => none
  | k + 1, x0, x1, x23, x374000, x374001 => if x23 = true then ((whirligiglaw03_lives.f k).bind fun t376 => (some t376)) else ((comm_Add.f k x0 x1).bind fun bt377 => (if bt377.2 = 0 then (whirligiglaw03_CommBack.l0 k x0 x1 bt377.1 ([] : List (S23)) (wrap64 ((x1.length : Int) - 1)) x374000 x374001) else (if (bt377.1.length : Int) = 0 then ((whirligiglaw03_lives.f k).bind fun t381 => (some t381)) else (some false))))
def whirligiglaw03_CommBack.l0 : Nat → List (S23) → List (S23) → List (S23) → List (S23) → Int → Int → Int → Option (Bool)
  | 0, _, _, _, _, _, _, _ => none
  | k + 1, x0, x1, x7, x9, x10, x374000, x374001 => if x10 ≥ 0 then (if 0 ≤ x10 then (if x10 < (x1.length : Int) then (if x9.length < 8796093022208 then (whirligiglaw03_CommBack.l0 k x0 x1 x7 (x9 ++ [(⟨(rd_T23 x1 x10).f0, (rd_T23 x1 x10).f1⟩ : S23)]) (wrap64 (x10 - 1)) x374000 x374001) else (none)) else (none)) else (none)) else ((comm_Add.f k x7 x9).bind fun bt386 => ((comm_Del.f k x7 x1).bind fun bt390 => ((whirligigref03_In.f k x1 x374000 x374001).bind fun t394 => (if bt386.2 = 0 then (if bt390.2 = 0 then ((comm_Compare.f x7 bt386.1).bind fun t395 => (if t395 = 0 then ((comm_Set.f k x7).bind fun t396 => (if t396 = true then ((comm_Set.f k bt390.1).bind fun t397 => (whirligiglaw03_CommBack.j2 k x0 x7 bt390.1 t394 (!t397) x374000 x374001)) else (whirligiglaw03_CommBack.j2 k x0 x7 bt390.1 t394 true x374000 x374001))) else (whirligiglaw03_CommBack.j2 k x0 x7 bt390.1 t394 true x374000 x374001))) else (whirligiglaw03_CommBack.j2 k x0 x7 bt390.1 t394 true x374000 x374001)) else (whirligiglaw03_CommBack.j2 k x0 x7 bt390.1 t394 true x374000 x374001)))))
def whirligiglaw03_CommBack.j2 : Nat → List (S23) → List (S23) → List (S23) → Bool → Bool → Int → Int → Option (Bool)
  | 0, _, _, _, _, _, _, _ => none
  | k + 1, x0, x7, x13, x15, x89, x374000, x374001 => if x89 = true then (some false) else ((comm_Has.f k x7 x374000 x374001).bind fun t398 => (if x15 = true then (if (t398 == true) = true then ((comm_Has.f k x13 x374000 x374001).bind fun t399 => (if (t399 == false) = true then ((whirligiglaw03_lives.f k).bind fun t400 => (some t400)) else (some false))) else (some false)) else ((comm_Has.f k x0 x374000 x374001).bind fun t401 => (if (t398 == t401) = true then ((comm_Has.f k x13 x374000 x374001).bind fun t402 => ((comm_Has.f k x0 x374000 x374001).bind fun t403 => (if (t402 == t403) = true then ((whirligiglaw03_lives.f k).bind fun t404 => (some t404)) else (some false)))) else (some false)))))
end
def whirligiglaw03_CommBack.f (k : Nat) (l0 : List (S23)) (l1 : List (S23)) (a2_0 : Int) (a2_1 : Int) : Option (Bool) := (whirligiglaw03_few.f l0).bind fun t374 => (if t374 = true then ((whirligiglaw03_few.f l1).bind fun t375 => (whirligiglaw03_CommBack.j0 k l0 l1 (!t375) a2_0 a2_1)) else (whirligiglaw03_CommBack.j0 k l0 l1 true a2_0 a2_1))
theorem whirligiglaw03_CommBack.mono_l : ∀ k, (∀ y0 y1 y2 y3 y4, LeO (whirligiglaw03_CommBack.j0 k y0 y1 y2 y3 y4) (whirligiglaw03_CommBack.j0 (k + 1) y0 y1 y2 y3 y4)) ∧ (∀ y0 y1 y2 y3 y4 y5 y6, LeO (whirligiglaw03_CommBack.l0 k y0 y1 y2 y3 y4 y5 y6) (whirligiglaw03_CommBack.l0 (k + 1) y0 y1 y2 y3 y4 y5 y6)) ∧ (∀ y0 y1 y2 y3 y4 y5 y6, LeO (whirligiglaw03_CommBack.j2 k y0 y1 y2 y3 y4 y5 y6) (whirligiglaw03_CommBack.j2 (k + 1) y0 y1 y2 y3 y4 y5 y6))
  | 0 => ⟨fun _ _ _ _ _ r h => by simp [whirligiglaw03_CommBack.j0] at h, fun _ _ _ _ _ _ _ r h => by simp [whirligiglaw03_CommBack.l0] at h, fun _ _ _ _ _ _ _ r h => by simp [whirligiglaw03_CommBack.j2] at h⟩
  | k + 1 => by
    obtain ⟨ih0, ih1, ih2⟩ := whirligiglaw03_CommBack.mono_l k
    refine ⟨?_, ?_, ?_⟩
    · intro y0 y1 y2 y3 y4
      unfold whirligiglaw03_CommBack.j0
      repeat' first
      | (with_reducible exact ih0 _ _ _ _ _)
      | (with_reducible exact ih1 _ _ _ _ _ _ _)
      | (with_reducible exact ih2 _ _ _ _ _ _ _)
      | (with_reducible exact comm_Add.mono _ _ _)
      | (with_reducible exact comm_Del.mono _ _ _)
      | (with_reducible exact comm_Has.mono _ _ _ _)
      | (with_reducible exact comm_Set.mono _ _)
      | (with_reducible exact whirligiglaw03_lives.mono _)
      | (with_reducible exact whirligigref03_In.mono _ _ _ _)
      | (with_reducible exact LeO.refl _)
      | (with_reducible exact LeO.none _)
      | (with_reducible refine LeO.ite ?_ ?_)
      | (with_reducible refine LeO.bind ?_ (fun _ => ?_))
      | exact ih0 _ _ _ _ _
      | exact ih1 _ _ _ _ _ _ _
      | exact ih2 _ _ _ _ _ _ _
      | exact comm_Add.mono _ _ _
      | exact comm_Del.mono _ _ _
      | exact comm_Has.mono _ _ _ _
      | exact comm_Set.mono _ _
      | exact whirligiglaw03_lives.mono _
      | exact whirligigref03_In.mono _ _ _ _
      | exact LeO.none _
      | refine LeO.ite ?_ ?_
      | refine LeO.bind ?_ (fun _ => ?_)
    · intro y0 y1 y2 y3 y4 y5 y6
      unfold whirligiglaw03_CommBack.l0
      repeat' first
      | (with_reducible exact ih0 _ _ _ _ _)
      | (with_reducible exact ih1 _ _ _ _ _ _ _)
      | (with_reducible exact ih2 _ _ _ _ _ _ _)
      | (with_reducible exact comm_Add.mono _ _ _)
      | (with_reducible exact comm_Del.mono _ _ _)
      | (with_reducible exact comm_Has.mono _ _ _ _)
      | (with_reducible exact comm_Set.mono _ _)
      | (with_reducible exact whirligiglaw03_lives.mono _)
      | (with_reducible exact whirligigref03_In.mono _ _ _ _)
      | (with_reducible exact LeO.refl _)
      | (with_reducible exact LeO.none _)
      | (with_reducible refine LeO.ite ?_ ?_)
      | (with_reducible refine LeO.bind ?_ (fun _ => ?_))
      | exact ih0 _ _ _ _ _
      | exact ih1 _ _ _ _ _ _ _
      | exact ih2 _ _ _ _ _ _ _
      | exact comm_Add.mono _ _ _
      | exact comm_Del.mono _ _ _
      | exact comm_Has.mono _ _ _ _
      | exact comm_Set.mono _ _
      | exact whirligiglaw03_lives.mono _
      | exact whirligigref03_In.mono _ _ _ _
      | exact LeO.none _
      | refine LeO.ite ?_ ?_
      | refine LeO.bind ?_ (fun _ => ?_)
    · intro y0 y1 y2 y3 y4 y5 y6
      unfold whirligiglaw03_CommBack.j2
      repeat' first
      | (with_reducible exact ih0 _ _ _ _ _)
      | (with_reducible exact ih1 _ _ _ _ _ _ _)
      | (with_reducible exact ih2 _ _ _ _ _ _ _)
      | (with_reducible exact comm_Add.mono _ _ _)
      | (with_reducible exact comm_Del.mono _ _ _)
      | (with_reducible exact comm_Has.mono _ _ _ _)
      | (with_reducible exact comm_Set.mono _ _)
      | (with_reducible exact whirligiglaw03_lives.mono _)
      | (with_reducible exact whirligigref03_In.mono _ _ _ _)
      | (with_reducible exact LeO.refl _)
      | (with_reducible exact LeO.none _)
      | (with_reducible refine LeO.ite ?_ ?_)
      | (with_reducible refine LeO.bind ?_ (fun _ => ?_))
      | exact ih0 _ _ _ _ _
      | exact ih1 _ _ _ _ _ _ _
      | exact ih2 _ _ _ _ _ _ _
      | exact comm_Add.mono _ _ _
      | exact comm_Del.mono _ _ _
      | exact comm_Has.mono _ _ _ _
      | exact comm_Set.mono _ _
      | exact whirligiglaw03_lives.mono _
      | exact whirligigref03_In.mono _ _ _ _
      | exact LeO.none _
      | refine LeO.ite ?_ ?_
      | refine LeO.bind ?_ (fun _ => ?_)
theorem whirligiglaw03_CommBack.mono : ∀ a0 a1 a2 a3 k, LeO (whirligiglaw03_CommBack.f k a0 a1 a2 a3) (whirligiglaw03_CommBack.f (k + 1) a0 a1 a2 a3) := by
  intro a0 a1 a2 a3 k
  obtain ⟨ih0, ih1, ih2⟩ := whirligiglaw03_CommBack.mono_l k
  unfold whirligiglaw03_CommBack.f
  repeat' first
      | (with_reducible exact ih0 _ _ _ _ _)
      | (with_reducible exact ih1 _ _ _ _ _ _ _)
      | (with_reducible exact ih2 _ _ _ _ _ _ _)
      | (with_reducible exact comm_Add.mono _ _ _)
      | (with_reducible exact comm_Del.mono _ _ _)
      | (with_reducible exact comm_Has.mono _ _ _ _)
      | (with_reducible exact comm_Set.mono _ _)
      | (with_reducible exact whirligiglaw03_lives.mono _)
      | (with_reducible exact whirligigref03_In.mono _ _ _ _)
      | (with_reducible exact LeO.refl _)
      | (with_reducible exact LeO.none _)
      | (with_reducible refine LeO.ite ?_ ?_)
      | (with_reducible refine LeO.bind ?_ (fun _ => ?_))
      | exact ih0 _ _ _ _ _
      | exact ih1 _ _ _ _ _ _ _
      | exact ih2 _ _ _ _ _ _ _
      | exact comm_Add.mono _ _ _
      | exact comm_Del.mono _ _ _
      | exact comm_Has.mono _ _ _ _
      | exact comm_Set.mono _ _
      | exact whirligiglaw03_lives.mono _
      | exact whirligigref03_In.mono _ _ _ _
      | exact LeO.none _
      | refine LeO.ite ?_ ?_
      | refine LeO.bind ?_ (fun _ => ?_)
theorem k3d2b.q {w W W' : World} {g : Nat} {o : Obj} (h : w.heap[g]? = some o) (hb : Below W.heap.size W W') (e : W.heap = w.heap) : W'.heap[g]? = some o := blk_below (e ▸ h) hb
theorem k3d2b.z {w0 w W W' : World} (h : Below w0.heap.size w0 w) (hb : Below W.heap.size W W') (e : W.heap = w.heap) (e1 : W.os = w.os) (e2 : W.tape = w.tape) (e3 : W.output = w.output) : Below w0.heap.size w0 W' := below_step ⟨e1.trans h.os, e2.trans h.tape, e3.trans h.output, e ▸ h.size, fun k hk => by rw [e]; exact h.block k hk⟩ hb
set_option maxHeartbeats 8000000 in
set_option maxRecDepth 100000 in
theorem whirligiglaw03_CommBack.calls (k : Nat) (A0 : Option Addr) (c0 : Nat) (l0 : List (S23)) (A1 : Option Addr) (c1 : Nat) (l1 : List (S23)) (ac : Int) (ad : Int) (r : Bool) (w : World) (hr0 : Kd.C k23 w A0 l0.length l0) (hc0 : l0.length ≤ c0) (hr1 : Kd.C k23 w A1 l1.length l1) (hc1 : l1.length ≤ c1) (h : whirligiglaw03_CommBack.f k l0 l1 ac ad = some r) :
  Calls Try.prog 8 #[.slice A0 l0.length c0, .slice A1 l1.length c1, .agg #[.int .i64 ac, .int .i64 ad]] w fun e w' => e = .returned (.bool r) ∧ Below w.heap.size w w' := by
 have hu23 := Try.underlying23
 have ao := Aside0.mk hr0
 have ap := Aside0.mk hc0
 clear hr0 hc0
 have HR1 := Aside0.mk hr1
 have HC1 := Aside0.mk hc1
 clear hr1 hc1
 have HB := Aside0.mk (Below.refl w.heap.size w)
 have H := h
 unfold whirligiglaw03_CommBack.f at H
 clear h
 have HC4 := Aside0.mk H
 clear H
 go_enter Try.func8, Try.ntmps8
 go_upto_region 1 with (first | ((with_reducible refine gate_dst (N := 5) rfl ?_); refine box_event ?hg (N := 5) ?hd (cs := #[.int .i64 ac, .int .i64 ad]) (t := 23) ?hr ?_; (case hd => rfl); (case hg => rfl); (case hr => first | (go_simp; done) | (go_simp; rfl)); intro ab hg w5 hbox hb; have n0_ := Aside0.mk (k3d2b.z HB.out hb rfl rfl rfl rfl); have n1_ := Aside0.mk (hbox); have n2_ := Aside0.mk ((by rw [hg]; exact (below_size (by repeat (first | (with_reducible first | exact HB.out | apply below_alloc | apply pw_below_drewN | apply below_drew1) | exact HB.out))) : w.heap.size ≤ ab)); have n3_ := Aside0.mk ((by rw [hg]; exact (below_size (by repeat (first | (with_reducible first | exact HB.out | apply below_alloc | apply pw_below_drewN | apply below_drew1) | exact HB.out))) : w.heap.size ≤ ab)); clear HB; have HB := n0_; have aa := n1_; have GW373 := n2_; have GE373 := n3_; clear n0_ n1_ n2_ n3_; clear hb hbox hg))
 (try simp only [Act.put, List.setIfInBounds_toArray, List.set_cons_zero, List.set_cons_succ])
 go_cut [23] (fun v23 wc => ∃ (kq : Nat) (x23_3 : Bool), v23 = .bool x23_3 ∧ Aside0 (whirligiglaw03_CommBack.j0 kq l0 l1 x23_3 ac ad = some r) ∧ Aside0 (kq ≤ k) ∧ Aside0 (wc.heap[ab]? = some (.cells #[.int .i64 ac, .int .i64 ad] 23 (0, 0))) ∧ Aside0 (Below w.heap.size w wc))
 case first =>
  have H := HC4.out
  clear HC4
  replace H := Option.bind_eq_some_iff.mp H
  obtain ⟨t374, A60, H⟩ := H
  (try dsimp only at H)
  have A6 := Aside0.mk A60
  clear A60
  by_cases c7 : t374 = true
  ·subst c7
   have H1 : ((whirligiglaw03_few.f l1).bind fun t375 => (whirligiglaw03_CommBack.j0 k l0 l1 (!t375) ac ad)) = some r := by rw [if_pos rfl] at H; exact H
   clear H
   have H := H1
   clear H1
   replace H := Option.bind_eq_some_iff.mp H
   obtain ⟨t375, A80, H⟩ := H
   replace H : (whirligiglaw03_CommBack.j0 k l0 l1 (!t375) ac ad) = some r := H
   have A8 := Aside0.mk A80
   clear A80
   have H' := Aside0.mk H
   clear H
   go_wp2_with (first | ((with_reducible refine gate_callee (f := 19) rfl ?_); refine goesL_ (some 17) rfl rfl Try.func19 (by kernel_rfl) rfl #[.slice A0 l0.length c0] rfl (by (try simp only [List.map_toArray, List.map_cons, List.map_nil]); first | done | rfl) ?_; (with_reducible refine (whirligiglaw03_few.calls _ _ l0 true _ ?side1 ?side2 A6.out).mono ?_); (case side1 => repeat (first | exact (Kd.C_below ao.out HB.out) | (with_reducible refine Kd.C_alloc ?_ _) | (with_reducible refine Kd.C_drewN ?_ _) | (with_reducible refine Kd.C_drew ?_))); (case side2 => exact ap.out); rintro e w' ⟨rfl, ⟨nd, rfl⟩⟩; refine ⟨_, rfl, ?_⟩) | (go_at_call 19; (with_reducible refine (whirligiglaw03_few.calls _ _ l1 t375 _ ?side1 ?side2 A8.out).mono ?_); (case side1 => repeat (first | exact (Kd.C_below HR1.out (by repeat (first | (with_reducible first | exact HB.out | apply below_alloc | apply pw_below_drewN | apply below_drew1) | exact HB.out))) | (with_reducible refine Kd.C_alloc ?_ _) | (with_reducible refine Kd.C_drewN ?_ _) | (with_reducible refine Kd.C_drew ?_))); (case side2 => exact HC1.out); rintro e w' ⟨rfl, ⟨nd, rfl⟩⟩))
   go_meet
   case rel => exact ⟨_, (!t375), (by first | rfl | (simp; done) | (simp [*]; done)), H', ⟨by first | omega | exact Nat.le_refl _⟩, ⟨by (with_reducible repeat (first | refine blk_drewN ?_ _ | refine blk_drew ?_ | refine blk_alloc ?_ _)); exact aa.out⟩, ⟨by repeat (first | (with_reducible first | exact HB.out | apply below_alloc | apply pw_below_drewN | apply below_drew1) | exact HB.out)⟩⟩
  ·replace c7 := Bool.eq_false_iff.mpr c7
   subst c7
   have H1 : (whirligiglaw03_CommBack.j0 k l0 l1 true ac ad) = some r := by rw [if_neg (show ¬ (false = true) by decide)] at H; exact H
   clear H
   have H := H1
   clear H1
   have H' := Aside0.mk H
   clear H
   go_wp2_with (first | ((with_reducible refine gate_callee (f := 19) rfl ?_); refine goesL_ (some 17) rfl rfl Try.func19 (by kernel_rfl) rfl #[.slice A0 l0.length c0] rfl (by (try simp only [List.map_toArray, List.map_cons, List.map_nil]); first | done | rfl) ?_; (with_reducible refine (whirligiglaw03_few.calls _ _ l0 false _ ?side1 ?side2 A6.out).mono ?_); (case side1 => repeat (first | exact (Kd.C_below ao.out HB.out) | (with_reducible refine Kd.C_alloc ?_ _) | (with_reducible refine Kd.C_drewN ?_ _) | (with_reducible refine Kd.C_drew ?_))); (case side2 => exact ap.out); rintro e w' ⟨rfl, ⟨nd, rfl⟩⟩; refine ⟨_, rfl, ?_⟩))
   go_meet
   case rel => exact ⟨_, (true), (by first | rfl | (simp; done) | (simp [*]; done)), H', ⟨by first | omega | exact Nat.le_refl _⟩, ⟨by (with_reducible repeat (first | refine blk_drewN ?_ _ | refine blk_drew ?_ | refine blk_alloc ?_ _)); exact aa.out⟩, ⟨by repeat (first | (with_reducible first | exact HB.out | apply below_alloc | apply pw_below_drewN | apply below_drew1) | exact HB.out)⟩⟩
 case rest =>
  clear HC4
  try clear c1
  try clear p2
  try clear c7
  try clear c8
  obtain ⟨kq, x23_3, rfl, HA, HJ3, aa, HB⟩ := hcut
  cases kq with
  | zero => exact absurd HA.out (by simp [whirligiglaw03_CommBack.j0])
  | succ ar =>
   have H := HA.out
   clear HA
   simp only [whirligiglaw03_CommBack.j0] at H
   by_cases c9 : x23_3 = true
   ·subst c9
    have H1 : ((whirligiglaw03_lives.f ar).bind fun t376 => (some t376)) = some r := by rw [if_pos rfl] at H; exact H
    clear H
    have H := H1
    clear H1
    replace H := Option.bind_eq_some_iff.mp H
    obtain ⟨t376, A100, H⟩ := H
    replace H : (some t376) = some r := H
    have A10 := Aside0.mk A100
    clear A100
    obtain rfl := Option.some.inj H
    go_wp2_with (first | ((with_reducible refine gate_callee (f := 9) rfl ?_); refine goesL_ (some 24) rfl rfl Try.func9 (by kernel_rfl) rfl #[] rfl (by (try simp only [List.map_toArray, List.map_cons, List.map_nil]); first | done | rfl) ?_; (with_reducible refine (whirligiglaw03_lives.calls ar  t376 _ A10.out).mono ?_); rintro e w11 ⟨rfl, hb⟩; refine ⟨_, rfl, ?_⟩; replace aa := Aside0.mk (k3d2b.q aa.out hb rfl); replace HB := Aside0.mk (k3d2b.z HB.out hb rfl rfl rfl rfl); (try clear hb); (try clear ah); (try clear hk); (try clear hi)))
    go_ret
    exact ⟨by first | rfl | (simp [errW_none, errW_some] <;> rfl) | (simp [*, errW_none, errW_some] <;> rfl), by repeat (first | (with_reducible first | exact HB.out | apply below_alloc | apply pw_below_drewN | apply below_drew1) | exact HB.out)⟩
   ·replace c9 := Bool.eq_false_iff.mpr c9
    subst c9
    have H1 := H
    rw [if_neg (show ¬ (false = true) by decide)] at H1
    clear H
    have H := H1
    clear H1
    replace H := Option.bind_eq_some_iff.mp H
    obtain ⟨⟨t377, t378⟩, A120, H⟩ := H
    (try dsimp only at H)
    have A12 := Aside0.mk A120
    clear A120
    by_cases aq : t378 = 0
    ·rw [if_pos aq] at H
     have c13b0 : (t378 == 0) = true := beq_iff_eq.mpr aq
     have c13b1 : (t378 != 0) = false := bne_eq_false_iff_eq.mpr aq
     clear aq
     have H' := Aside0.mk H
     clear H
     go_wp2_with (first | ((with_reducible refine gate_callee (f := 20) rfl ?_); refine goesL_ (some 28) rfl rfl Try.func20 (by kernel_rfl) rfl #[.slice A0 l0.length c0, .slice A1 l1.length c1] rfl (by (try simp only [List.map_toArray, List.map_cons, List.map_nil]); first | done | rfl) ?_; (with_reducible refine (comm_Add.calls ar _ _ l0 _ _ l1 t377 t378 _ ?side1 ?side2 ?side3 ?side4 A12.out).mono ?_); (case side1 | side3 => repeat (first | exact (Kd.C_below ao.out HB.out) | exact (Kd.C_below HR1.out HB.out) | (with_reducible refine Kd.C_alloc ?_ _) | (with_reducible refine Kd.C_drewN ?_ _) | (with_reducible refine Kd.C_drew ?_))); (case side2 | side4 => first | exact ap.out | exact HC1.out); rintro e w14 ⟨v379, rfl, ho0, hb⟩; refine ⟨_, rfl, ?_⟩; have HO380 := Aside0.mk (Kd.R_lower (Kd.R_newB ho0 (g := ab) (o := .cells #[.int .i64 ac, .int .i64 ad] 23 (0, 0)) (by (with_reducible repeat (first | refine blk_drewN ?_ _ | refine blk_drew ?_ | refine blk_alloc ?_ _)); exact aa.out)) (below_size (by repeat (first | (with_reducible first | exact HB.out | apply below_alloc | apply pw_below_drewN | apply below_drew1) | exact HB.out)))); replace aa := Aside0.mk (k3d2b.q aa.out hb rfl); replace HB := Aside0.mk (k3d2b.z HB.out hb rfl rfl rfl rfl); (try clear hb); (try clear ah); (try clear hk); (try clear hi); (try clear ho0)))
     go_loopg [9, 10] ar (fun kq v9 v10 w' => ∃ (x9_2 : List (S23)) (x10_2 : Int), v10 = .int .i64 x10_2 ∧ Aside0 (whirligiglaw03_CommBack.l0 kq l0 l1 t377 x9_2 x10_2 ac ad = some r) ∧ Aside0 (kq ≤ ar) ∧ Aside0 (Kd.R k23 23 w' w.heap.size (fun k_ => some k_ ≠ (v9 : Value).ownBlock ∧ k_ ≠ ab) v379 t377) ∧ Aside0 (Kd.R k23 23 w' w.heap.size (fun k_ => some k_ ≠ (v379 : Value).ownBlock ∧ k_ ≠ ab) v9 x9_2) ∧ Aside0 (w'.heap[ab]? = some (.cells #[.int .i64 ac, .int .i64 ad] 23 (0, 0))) ∧ Aside0 (Below w.heap.size w w'))
     case atStart => exact ⟨(([] : List (S23))), (wrap64 ((l1.length : Int) - 1)), (by first | rfl | (simp; done) | (simp [*]; done)), H', ⟨Nat.le_refl _⟩, ⟨by (with_reducible repeat (first | apply Kd.R_alloc | apply Kd.R_drewN | apply Kd.R_drew)); exact Kd.R_mono HO380.out (fun _ hk => ⟨(by simp [Value.ownBlock]), hk.2⟩)⟩, ⟨by first | exact Kd.R_nil _ _ _ _ _ | exact Kd.N_nil _ _ _ _ _ | exact Kd.V_nil _ _ _ _ _ | exact Kd.Q_nil _ _ _ _ _ | exact Kd.S_nil _ _ _ _ _⟩, ⟨by (with_reducible repeat (first | refine blk_drewN ?_ _ | refine blk_drew ?_ | refine blk_alloc ?_ _)); exact aa.out⟩, ⟨by repeat (first | (with_reducible first | exact HB.out | apply below_alloc | apply pw_below_drewN | apply below_drew1) | exact HB.out)⟩⟩
     case round =>
      clear H'
      try clear c1
      try clear c2
      try clear p2
      try clear p6
      try clear c7
      try clear c8
      try clear c9
      try clear aq
      try clear c13b0
      try clear c13b1
      try clear p2
      obtain ⟨x9_2, x10_2, rfl, HA, HK2, HO_7, HO_9, aa, HB⟩ := hrel
      cases gk with
      | zero => exact absurd HA.out (by simp [whirligiglaw03_CommBack.l0])
      | succ k2 =>
       have H := HA.out
       clear HA
       simp only [whirligiglaw03_CommBack.l0] at H
       by_cases c15 : x10_2 ≥ 0
       ·rw [if_pos c15] at H
        have c15b0 : decide (0 ≤ x10_2) = true := decide_eq_true c15
        clear c15
        by_cases c16 : 0 ≤ x10_2
        ·rw [if_pos c16] at H
         have c16b0 : decide (0 ≤ x10_2) = true := decide_eq_true c16
         clear c16
         by_cases c17 : x10_2 < (l1.length : Int)
         ·rw [if_pos c17] at H
          have c17b0 : decide (x10_2 < (l1.length : Int)) = true := decide_eq_true c17
          clear c17
          by_cases c18 : x9_2.length < 8796093022208
          ·rw [if_pos c18] at H
           have LMc18 := Aside0.mk c18
           clear c18
           obtain ⟨y383, hy383⟩ : ∃ y_ : List (S23), y_ = (x9_2 ++ [(⟨(rd_T23 l1 x10_2).f0, (rd_T23 l1 x10_2).f1⟩ : S23)]) := ⟨_, rfl⟩
           replace H : (whirligiglaw03_CommBack.l0 k2 l0 l1 t377 y383 (wrap64 (x10_2 - 1)) ac ad) = some r := by first | (rw [hy383]; with_reducible exact H) | (have H2_ := (Option.bind_some _ _).symm.trans H; rw [hy383]; with_reducible exact H2_) | (have H2_ := (Option.bind_some _ _).symm.trans H; with_reducible exact H2_) | with_reducible exact H | (rw [hy383]; exact H) | exact H
           have Ny383 := Aside0.mk hy383
           clear hy383
           have H' := Aside0.mk H
           clear H
           have p382 : 0 ≤ (x10_2 : Int) := of_decide_eq_true (by first | (with_reducible assumption) | assumption)
           have q382 : x10_2 < (l1.length : Int) := of_decide_eq_true (by first | (with_reducible assumption) | assumption)
           obtain ⟨ad382, e382, hx382_0, hx382_1⟩ := at_T23 HR1.out x10_2 p382 q382
           cases e382
           replace hx382_0 := (HB.out.cell (World.block_lt_of_cell? w _ hx382_0)).trans hx382_0
           replace hx382_1 := (HB.out.cell (World.block_lt_of_cell? w _ hx382_1)).trans hx382_1
           replace p382 := eq_true p382
           replace q382 := eq_true q382
           go_wp2_with (first | ((with_reducible refine gate_builtin (b := .append) (xs := #[.tmp 46, .tmp 51]) rfl ?_); at_builtin; refine Kd.R_append k23 (w0 := w) w.heap.size rfl (.tmp 46) (.tmp 51) 32 23 (.agg #[(.int .i64 0), (.int .i64 0)]) 16 rfl Try.underlying32 info23 rfl (by decide) (by omega) u9 x9_2 (⟨(rd_T23 l1 x10_2).f0, (rd_T23 l1 x10_2).f1⟩ : S23) [.int .i64 ((rd_T23 l1 x10_2).f0), .int .i64 ((rd_T23 l1 x10_2).f1)] (fun k_ => some k_ ≠ (v379 : Value).ownBlock ∧ k_ ≠ ab) (fun _ => False) rfl rfl ?aP (fun _ hk => hk.elim) ?aF ?aO ?aB ?aS ?aL ?_; (case aP => exact k23_mkM _ _ _ (⟨(rd_T23 l1 x10_2).f0, (rd_T23 l1 x10_2).f1⟩ : S23)); (case aB => exact (by repeat (first | (with_reducible first | exact HB.out | apply below_alloc | apply pw_below_drewN | apply below_drew1) | exact HB.out))); (case aF => exact (fun k_ hk => ⟨Kd.fresh' (Kd.R_lt (by (with_reducible repeat (first | apply Kd.R_alloc | apply Kd.R_drewN | apply Kd.R_drew)); exact HO_7.out)) k_ hk, Kd.freshB (g := ab) (o := .cells #[.int .i64 ac, .int .i64 ad] 23 (0, 0)) (by (with_reducible repeat (first | refine blk_drewN ?_ _ | refine blk_drew ?_ | refine blk_alloc ?_ _)); exact aa.out) k_ hk⟩)); (case aO => exact (by (with_reducible repeat (first | apply Kd.R_alloc | apply Kd.R_drewN | apply Kd.R_drew)); exact HO_9.out)); (case aS => exact (below_size (by repeat (first | (with_reducible first | exact HB.out | apply below_alloc | apply pw_below_drewN | apply below_drew1) | exact HB.out)))); (case aL => have := LMc18.out; omega); intro v384 w19 ho hb hg hat; rw [← Ny383.out] at ho; replace HO_7 := Aside0.mk (Kd.R_after (ok := (fun k_ => k_ ≠ ab)) (by (with_reducible repeat (first | apply Kd.R_alloc | apply Kd.R_drewN | apply Kd.R_drew)); exact Kd.R_mono HO_7.out (fun _ hk => ⟨hk.2, hk.1⟩)) hg hat); replace aa := Aside0.mk (blk_grown (g := ab) (o := .cells #[.int .i64 ac, .int .i64 ad] 23 (0, 0)) (by (with_reducible repeat (first | refine blk_drewN ?_ _ | refine blk_drew ?_ | refine blk_alloc ?_ _)); exact aa.out) hg (Kd.R_away HO_9.out (fun _ hk => hk.2))); replace HB := Aside0.mk (hb); have HO385 := Aside0.mk (ho); clear HO_9; clear ho hb hg hat))
           go_roundg k2
           case measure => have := HJ3.out; have := HK2.out; omega
           case rel => exact ⟨(y383), (wrap64 (x10_2 - 1)), (by first | rfl | (simp; done) | (simp [*]; done)), H', ⟨by have := HJ3.out; have := HK2.out; omega⟩, ⟨by (with_reducible repeat (first | apply Kd.R_alloc | apply Kd.R_drewN | apply Kd.R_drew)); exact Kd.R_mono HO_7.out (fun _ hk => ⟨hk.2, hk.1⟩)⟩, ⟨by (with_reducible repeat (first | apply Kd.R_alloc | apply Kd.R_drewN | apply Kd.R_drew)); exact HO385.out⟩, ⟨by (with_reducible repeat (first | refine blk_drewN ?_ _ | refine blk_drew ?_ | refine blk_alloc ?_ _)); exact aa.out⟩, ⟨by repeat (first | (with_reducible first | exact HB.out | apply below_alloc | apply pw_below_drewN | apply below_drew1) | exact HB.out)⟩⟩
          ·rw [if_neg c18] at H
           exact absurd H (by simp)
         ·rw [if_neg c17] at H
          exact absurd H (by simp)
        ·rw [if_neg c16] at H
         exact absurd H (by simp)
       ·rw [if_neg c15] at H
        have c15b0 : decide (0 ≤ x10_2) = false := decide_eq_false c15
        clear c15
        replace H := Option.bind_eq_some_iff.mp H
        obtain ⟨⟨t386, t387⟩, A200, H⟩ := H
        (try dsimp only at H)
        have A20 := Aside0.mk A200
        clear A200
        replace H := Option.bind_eq_some_iff.mp H
        obtain ⟨⟨t390, t391⟩, A210, H⟩ := H
        (try dsimp only at H)
        have A21 := Aside0.mk A210
        clear A210
        replace H := Option.bind_eq_some_iff.mp H
        obtain ⟨t394, A220, H⟩ := H
        (try dsimp only at H)
        have A22 := Aside0.mk A220
        clear A220
        have HC23 := Aside0.mk H
        clear H
        obtain ⟨ai, aj, eo24⟩ := Kd.R_slice HO_7.out
        subst eo24
        obtain ⟨Ao25, co25, eo25⟩ := Kd.R_slice HO_9.out
        subst eo25
        go_upto_region 14 with (first | ((with_reducible refine gate_callee (f := 20) rfl ?_); refine goesL_ (some 56) rfl rfl Try.func20 (by kernel_rfl) rfl #[.slice ai t377.length aj, .slice Ao25 x9_2.length co25] rfl (by (try simp only [List.map_toArray, List.map_cons, List.map_nil]); first | done | rfl) ?_; (with_reducible refine (comm_Add.calls k2 _ _ t377 _ _ x9_2 t386 t387 _ ?side1 ?side2 ?side3 ?side4 A20.out).mono ?_); (case side1 | side3 => repeat (first | exact (Kd.R_reads' HO_7.out).2.2 | exact (Kd.R_reads' HO_9.out).2.2 | (with_reducible refine Kd.C_alloc ?_ _) | (with_reducible refine Kd.C_drewN ?_ _) | (with_reducible refine Kd.C_drew ?_))); (case side2 | side4 => first | exact (Kd.R_reads' HO_7.out).2.1 | exact (Kd.R_reads' HO_9.out).2.1); rintro e w26 ⟨v388, rfl, ho0, hb⟩; refine ⟨_, rfl, ?_⟩; have n0_ := Aside0.mk (Kd.R_elder' (by (with_reducible repeat (first | apply Kd.R_alloc | apply Kd.R_drewN | apply Kd.R_drew)); exact HO_7.out) (Kd.R_base ho0) hb); have n1_ := Aside0.mk (Kd.R_elder' (by (with_reducible repeat (first | apply Kd.R_alloc | apply Kd.R_drewN | apply Kd.R_drew)); exact HO_9.out) (Kd.R_base ho0) hb); have n2_ := Aside0.mk (Kd.R_lower (Kd.R_newB (Kd.R_new' (Kd.R_new' ho0 (Kd.R_lt (by (with_reducible repeat (first | apply Kd.R_alloc | apply Kd.R_drewN | apply Kd.R_drew)); exact HO_7.out))) (Kd.R_lt (by (with_reducible repeat (first | apply Kd.R_alloc | apply Kd.R_drewN | apply Kd.R_drew)); exact HO_9.out))) (g := ab) (o := .cells #[.int .i64 ac, .int .i64 ad] 23 (0, 0)) (by (with_reducible repeat (first | refine blk_drewN ?_ _ | refine blk_drew ?_ | refine blk_alloc ?_ _)); exact aa.out)) (below_size (by repeat (first | (with_reducible first | exact HB.out | apply below_alloc | apply pw_below_drewN | apply below_drew1) | exact HB.out)))); have n3_ := Aside0.mk (k3d2b.q aa.out hb rfl); have n4_ := Aside0.mk (k3d2b.z HB.out hb rfl rfl rfl rfl); clear HO_7; clear HO_9; clear aa; clear HB; have HO_7 := n0_; have HO_9 := n1_; have ae := n2_; have aa := n3_; have HB := n4_; clear n0_ n1_ n2_ n3_ n4_; (try clear hb); (try clear ah); (try clear hk); (try clear hi); (try clear ho0)) | ((with_reducible refine gate_callee (f := 31) rfl ?_); refine goesL_ (some 62) rfl rfl Try.func31 (by kernel_rfl) rfl #[.slice ai t377.length aj, .slice A1 l1.length c1] rfl (by (try simp only [List.map_toArray, List.map_cons, List.map_nil]); first | done | rfl) ?_; (with_reducible refine (comm_Del.calls k2 _ _ t377 _ _ l1 t390 t391 _ ?side1 ?side2 ?side3 ?side4 A21.out).mono ?_); (case side1 | side3 => repeat (first | exact (Kd.R_reads' HO_7.out).2.2 | exact (Kd.C_below HR1.out HB.out) | (with_reducible refine Kd.C_alloc ?_ _) | (with_reducible refine Kd.C_drewN ?_ _) | (with_reducible refine Kd.C_drew ?_))); (case side2 | side4 => first | exact (Kd.R_reads' HO_7.out).2.1 | exact HC1.out); rintro e w27 ⟨v392, rfl, ho0, hb⟩; refine ⟨_, rfl, ?_⟩; have n0_ := Aside0.mk (Kd.R_elder' (by (with_reducible repeat (first | apply Kd.R_alloc | apply Kd.R_drewN | apply Kd.R_drew)); exact HO_7.out) (Kd.R_base ho0) hb); have n1_ := Aside0.mk (Kd.R_elder' (by (with_reducible repeat (first | apply Kd.R_alloc | apply Kd.R_drewN | apply Kd.R_drew)); exact HO_9.out) (Kd.R_base ho0) hb); have n2_ := Aside0.mk (Kd.R_elder' (by (with_reducible repeat (first | apply Kd.R_alloc | apply Kd.R_drewN | apply Kd.R_drew)); exact ae.out) (Kd.R_base ho0) hb); have n3_ := Aside0.mk (Kd.R_lower (Kd.R_newB (Kd.R_new' (Kd.R_new' (Kd.R_new' ho0 (Kd.R_lt (by (with_reducible repeat (first | apply Kd.R_alloc | apply Kd.R_drewN | apply Kd.R_drew)); exact HO_7.out))) (Kd.R_lt (by (with_reducible repeat (first | apply Kd.R_alloc | apply Kd.R_drewN | apply Kd.R_drew)); exact HO_9.out))) (Kd.R_lt (by (with_reducible repeat (first | apply Kd.R_alloc | apply Kd.R_drewN | apply Kd.R_drew)); exact ae.out))) (g := ab) (o := .cells #[.int .i64 ac, .int .i64 ad] 23 (0, 0)) (by (with_reducible repeat (first | refine blk_drewN ?_ _ | refine blk_drew ?_ | refine blk_alloc ?_ _)); exact aa.out)) (below_size (by repeat (first | (with_reducible first | exact HB.out | apply below_alloc | apply pw_below_drewN | apply below_drew1) | exact HB.out)))); have n4_ := Aside0.mk (k3d2b.q aa.out hb rfl); have n5_ := Aside0.mk (k3d2b.z HB.out hb rfl rfl rfl rfl); clear HO_7; clear HO_9; clear ae; clear aa; clear HB; have HO_7 := n0_; have HO_9 := n1_; have ae := n2_; have af := n3_; have aa := n4_; have HB := n5_; clear n0_ n1_ n2_ n3_ n4_ n5_; (try clear hb); (try clear ah); (try clear hk); (try clear hi); (try clear ho0); have hcz28_0 : w27.cell? ⟨ab, 0, none⟩ = some (.int .i64 ac) := (blk_cell aa.out 0).trans rfl; have hcz28_1 : w27.cell? ⟨ab, 1, none⟩ = some (.int .i64 ad) := (blk_cell aa.out 1).trans rfl; have hfz28_0 := blk_frozen aa.out 0; have hfz28_1 := blk_frozen aa.out 1) | ((with_reducible refine gate_callee (f := 27) rfl ?_); refine goesL_ (some 67) rfl rfl Try.func27 (by kernel_rfl) rfl #[.slice A1 l1.length c1, .agg #[.int .i64 ac, .int .i64 ad]] rfl (by (try simp only [List.map_toArray, List.map_cons, List.map_nil]); first | done | rfl) ?_; (with_reducible refine (whirligigref03_In.calls k2 _ _ l1 ac ad t394 _ ?side1 ?side2 A22.out).mono ?_); (case side1 => repeat (first | exact (Kd.C_below HR1.out HB.out) | (with_reducible refine Kd.C_alloc ?_ _) | (with_reducible refine Kd.C_drewN ?_ _) | (with_reducible refine Kd.C_drew ?_))); (case side2 => exact HC1.out); rintro e w29 ⟨rfl, hb⟩; refine ⟨_, rfl, ?_⟩; replace HO_7 := Aside0.mk (Kd.R_below (by (with_reducible repeat (first | apply Kd.R_alloc | apply Kd.R_drewN | apply Kd.R_drew)); exact HO_7.out) hb); replace HO_9 := Aside0.mk (Kd.R_below (by (with_reducible repeat (first | apply Kd.R_alloc | apply Kd.R_drewN | apply Kd.R_drew)); exact HO_9.out) hb); replace ae := Aside0.mk (Kd.R_below (by (with_reducible repeat (first | apply Kd.R_alloc | apply Kd.R_drewN | apply Kd.R_drew)); exact ae.out) hb); replace af := Aside0.mk (Kd.R_below (by (with_reducible repeat (first | apply Kd.R_alloc | apply Kd.R_drewN | apply Kd.R_drew)); exact af.out) hb); replace aa := Aside0.mk (k3d2b.q aa.out hb rfl); replace HB := Aside0.mk (k3d2b.z HB.out hb rfl rfl rfl rfl); (try clear hb); (try clear ah); (try clear hk); (try clear hi)))
        (try simp only [Act.put, List.setIfInBounds_toArray, List.set_cons_zero, List.set_cons_succ])
        go_cut [89] (fun v89 wc => ∃ (kq : Nat) (x89_22 : Bool), v89 = .bool x89_22 ∧ Aside0 (whirligiglaw03_CommBack.j2 kq l0 t377 t390 t394 x89_22 ac ad = some r) ∧ Aside0 (kq ≤ k2) ∧ Aside0 (Kd.R k23 23 wc w.heap.size (fun k_ => some k_ ≠ (v392 : Value).ownBlock ∧ k_ ≠ ab) (.slice ai t377.length aj) t377) ∧ Aside0 (Kd.R k23 23 wc w.heap.size (fun k_ => some k_ ≠ ((.slice ai t377.length aj) : Value).ownBlock ∧ k_ ≠ ab) v392 t390) ∧ Aside0 (wc.heap[ab]? = some (.cells #[.int .i64 ac, .int .i64 ad] 23 (0, 0))) ∧ Aside0 (Below w.heap.size w wc))
        case first =>
         have H := HC23.out
         clear HC23
         by_cases au : t387 = 0
         ·rw [if_pos au] at H
          have c30b0 : (t387 == 0) = true := beq_iff_eq.mpr au
          have c30b1 : (t387 != 0) = false := bne_eq_false_iff_eq.mpr au
          clear au
          (first | rw [c30b0] | (simp only [i64_w, i32_w]; rw [c30b0]) | skip)
          by_cases av : t391 = 0
          ·rw [if_pos av] at H
           have c31b0 : (t391 == 0) = true := beq_iff_eq.mpr av
           have c31b1 : (t391 != 0) = false := bne_eq_false_iff_eq.mpr av
           clear av
           replace H := Option.bind_eq_some_iff.mp H
           obtain ⟨t395, A320, H⟩ := H
           (try dsimp only at H)
           have A32 := Aside0.mk A320
           clear A320
           by_cases aw : t395 = 0
           ·rw [if_pos aw] at H
            have c33b0 : (t395 == 0) = true := beq_iff_eq.mpr aw
            have c33b1 : (t395 != 0) = false := bne_eq_false_iff_eq.mpr aw
            clear aw
            replace H := Option.bind_eq_some_iff.mp H
            obtain ⟨t396, A340, H⟩ := H
            (try dsimp only at H)
            have A34 := Aside0.mk A340
            clear A340
            by_cases c35 : t396 = true
            ·subst c35
             have H1 : ((comm_Set.f k2 t390).bind fun t397 => (whirligiglaw03_CommBack.j2 k2 l0 t377 t390 t394 (!t397) ac ad)) = some r := by rw [if_pos rfl] at H; exact H
             clear H
             have H := H1
             clear H1
             replace H := Option.bind_eq_some_iff.mp H
             obtain ⟨t397, A360, H⟩ := H
             replace H : (whirligiglaw03_CommBack.j2 k2 l0 t377 t390 t394 (!t397) ac ad) = some r := H
             have A36 := Aside0.mk A360
             clear A360
             have H' := Aside0.mk H
             clear H
             obtain ⟨Ao37, co37, eo37⟩ := Kd.R_slice ae.out
             subst eo37
             go_wp2_with (first | (go_at_call 23; (with_reducible refine (comm_Compare.calls _ _ t377 _ _ t386 t395 _ ?side1 ?side2 ?side3 ?side4 A32.out).mono ?_); (case side1 | side3 => repeat (first | exact (Kd.R_reads' HO_7.out).2.2 | exact (Kd.R_reads' ae.out).2.2 | (with_reducible refine Kd.C_alloc ?_ _) | (with_reducible refine Kd.C_drewN ?_ _) | (with_reducible refine Kd.C_drew ?_))); (case side2 | side4 => first | exact (Kd.R_reads' HO_7.out).2.1 | exact (Kd.R_reads' ae.out).2.1); rintro e w38 ⟨rfl, hb⟩; replace HO_7 := Aside0.mk (Kd.R_below (by (with_reducible repeat (first | apply Kd.R_alloc | apply Kd.R_drewN | apply Kd.R_drew)); exact HO_7.out) hb); replace HO_9 := Aside0.mk (Kd.R_below (by (with_reducible repeat (first | apply Kd.R_alloc | apply Kd.R_drewN | apply Kd.R_drew)); exact HO_9.out) hb); replace ae := Aside0.mk (Kd.R_below (by (with_reducible repeat (first | apply Kd.R_alloc | apply Kd.R_drewN | apply Kd.R_drew)); exact ae.out) hb); replace af := Aside0.mk (Kd.R_below (by (with_reducible repeat (first | apply Kd.R_alloc | apply Kd.R_drewN | apply Kd.R_drew)); exact af.out) hb); replace aa := Aside0.mk (k3d2b.q aa.out hb rfl); replace HB := Aside0.mk (k3d2b.z HB.out hb rfl rfl rfl rfl); (try clear hb); (try clear ah); (try clear hk); (try clear hi)) | (go_at_call 25; (with_reducible refine (comm_Set.calls k2 _ _ t377 true _ ?side1 ?side2 A34.out).mono ?_); (case side1 => repeat (first | exact (Kd.R_reads' HO_7.out).2.2 | (with_reducible refine Kd.C_alloc ?_ _) | (with_reducible refine Kd.C_drewN ?_ _) | (with_reducible refine Kd.C_drew ?_))); (case side2 => exact (Kd.R_reads' HO_7.out).2.1); rintro e w39 ⟨rfl, hb⟩; replace HO_7 := Aside0.mk (Kd.R_below (by (with_reducible repeat (first | apply Kd.R_alloc | apply Kd.R_drewN | apply Kd.R_drew)); exact HO_7.out) hb); replace HO_9 := Aside0.mk (Kd.R_below (by (with_reducible repeat (first | apply Kd.R_alloc | apply Kd.R_drewN | apply Kd.R_drew)); exact HO_9.out) hb); replace ae := Aside0.mk (Kd.R_below (by (with_reducible repeat (first | apply Kd.R_alloc | apply Kd.R_drewN | apply Kd.R_drew)); exact ae.out) hb); replace af := Aside0.mk (Kd.R_below (by (with_reducible repeat (first | apply Kd.R_alloc | apply Kd.R_drewN | apply Kd.R_drew)); exact af.out) hb); replace aa := Aside0.mk (k3d2b.q aa.out hb rfl); replace HB := Aside0.mk (k3d2b.z HB.out hb rfl rfl rfl rfl); (try clear hb); (try clear ah); (try clear hk); (try clear hi); obtain ⟨Ao40, co40, eo40⟩ := Kd.R_slice af.out; subst eo40) | (go_at_call 25; (with_reducible refine (comm_Set.calls k2 _ _ t390 t397 _ ?side1 ?side2 A36.out).mono ?_); (case side1 => repeat (first | exact (Kd.R_reads' af.out).2.2 | (with_reducible refine Kd.C_alloc ?_ _) | (with_reducible refine Kd.C_drewN ?_ _) | (with_reducible refine Kd.C_drew ?_))); (case side2 => exact (Kd.R_reads' af.out).2.1); rintro e w41 ⟨rfl, hb⟩; replace HO_7 := Aside0.mk (Kd.R_below (by (with_reducible repeat (first | apply Kd.R_alloc | apply Kd.R_drewN | apply Kd.R_drew)); exact HO_7.out) hb); replace HO_9 := Aside0.mk (Kd.R_below (by (with_reducible repeat (first | apply Kd.R_alloc | apply Kd.R_drewN | apply Kd.R_drew)); exact HO_9.out) hb); replace ae := Aside0.mk (Kd.R_below (by (with_reducible repeat (first | apply Kd.R_alloc | apply Kd.R_drewN | apply Kd.R_drew)); exact ae.out) hb); replace af := Aside0.mk (Kd.R_below (by (with_reducible repeat (first | apply Kd.R_alloc | apply Kd.R_drewN | apply Kd.R_drew)); exact af.out) hb); replace aa := Aside0.mk (k3d2b.q aa.out hb rfl); replace HB := Aside0.mk (k3d2b.z HB.out hb rfl rfl rfl rfl); (try clear hb); (try clear ah); (try clear hk); (try clear hi)))
             go_meet
             case rel => exact ⟨_, (!t397), (by first | rfl | (simp; done) | (simp [*]; done)), H', ⟨by have := HJ3.out; have := HK2.out; first | omega | exact Nat.le_refl _⟩, ⟨by (with_reducible repeat (first | apply Kd.R_alloc | apply Kd.R_drewN | apply Kd.R_drew)); exact Kd.R_mono HO_7.out (fun _ hk => ⟨hk.2, hk.1.1.2⟩)⟩, ⟨by (with_reducible repeat (first | apply Kd.R_alloc | apply Kd.R_drewN | apply Kd.R_drew)); exact Kd.R_mono af.out (fun _ hk => ⟨hk.1.1.1.2, hk.2⟩)⟩, ⟨by (with_reducible repeat (first | refine blk_drewN ?_ _ | refine blk_drew ?_ | refine blk_alloc ?_ _)); exact aa.out⟩, ⟨by repeat (first | (with_reducible first | exact HB.out | apply below_alloc | apply pw_below_drewN | apply below_drew1) | exact HB.out)⟩⟩
            ·replace c35 := Bool.eq_false_iff.mpr c35
             subst c35
             have H1 : (whirligiglaw03_CommBack.j2 k2 l0 t377 t390 t394 true ac ad) = some r := by rw [if_neg (show ¬ (false = true) by decide)] at H; exact H
             clear H
             have H := H1
             clear H1
             have H' := Aside0.mk H
             clear H
             obtain ⟨Ao42, co42, eo42⟩ := Kd.R_slice ae.out
             subst eo42
             go_wp2_with (first | (go_at_call 23; (with_reducible refine (comm_Compare.calls _ _ t377 _ _ t386 t395 _ ?side1 ?side2 ?side3 ?side4 A32.out).mono ?_); (case side1 | side3 => repeat (first | exact (Kd.R_reads' HO_7.out).2.2 | exact (Kd.R_reads' ae.out).2.2 | (with_reducible refine Kd.C_alloc ?_ _) | (with_reducible refine Kd.C_drewN ?_ _) | (with_reducible refine Kd.C_drew ?_))); (case side2 | side4 => first | exact (Kd.R_reads' HO_7.out).2.1 | exact (Kd.R_reads' ae.out).2.1); rintro e w43 ⟨rfl, hb⟩; replace HO_7 := Aside0.mk (Kd.R_below (by (with_reducible repeat (first | apply Kd.R_alloc | apply Kd.R_drewN | apply Kd.R_drew)); exact HO_7.out) hb); replace HO_9 := Aside0.mk (Kd.R_below (by (with_reducible repeat (first | apply Kd.R_alloc | apply Kd.R_drewN | apply Kd.R_drew)); exact HO_9.out) hb); replace ae := Aside0.mk (Kd.R_below (by (with_reducible repeat (first | apply Kd.R_alloc | apply Kd.R_drewN | apply Kd.R_drew)); exact ae.out) hb); replace af := Aside0.mk (Kd.R_below (by (with_reducible repeat (first | apply Kd.R_alloc | apply Kd.R_drewN | apply Kd.R_drew)); exact af.out) hb); replace aa := Aside0.mk (k3d2b.q aa.out hb rfl); replace HB := Aside0.mk (k3d2b.z HB.out hb rfl rfl rfl rfl); (try clear hb); (try clear ah); (try clear hk); (try clear hi)) | (go_at_call 25; (with_reducible refine (comm_Set.calls k2 _ _ t377 false _ ?side1 ?side2 A34.out).mono ?_); (case side1 => repeat (first | exact (Kd.R_reads' HO_7.out).2.2 | (with_reducible refine Kd.C_alloc ?_ _) | (with_reducible refine Kd.C_drewN ?_ _) | (with_reducible refine Kd.C_drew ?_))); (case side2 => exact (Kd.R_reads' HO_7.out).2.1); rintro e w44 ⟨rfl, hb⟩; replace HO_7 := Aside0.mk (Kd.R_below (by (with_reducible repeat (first | apply Kd.R_alloc | apply Kd.R_drewN | apply Kd.R_drew)); exact HO_7.out) hb); replace HO_9 := Aside0.mk (Kd.R_below (by (with_reducible repeat (first | apply Kd.R_alloc | apply Kd.R_drewN | apply Kd.R_drew)); exact HO_9.out) hb); replace ae := Aside0.mk (Kd.R_below (by (with_reducible repeat (first | apply Kd.R_alloc | apply Kd.R_drewN | apply Kd.R_drew)); exact ae.out) hb); replace af := Aside0.mk (Kd.R_below (by (with_reducible repeat (first | apply Kd.R_alloc | apply Kd.R_drewN | apply Kd.R_drew)); exact af.out) hb); replace aa := Aside0.mk (k3d2b.q aa.out hb rfl); replace HB := Aside0.mk (k3d2b.z HB.out hb rfl rfl rfl rfl); (try clear hb); (try clear ah); (try clear hk); (try clear hi)))
             go_meet
             case rel => exact ⟨_, (true), (by first | rfl | (simp; done) | (simp [*]; done)), H', ⟨by have := HJ3.out; have := HK2.out; first | omega | exact Nat.le_refl _⟩, ⟨by (with_reducible repeat (first | apply Kd.R_alloc | apply Kd.R_drewN | apply Kd.R_drew)); exact Kd.R_mono HO_7.out (fun _ hk => ⟨hk.2, hk.1.1.2⟩)⟩, ⟨by (with_reducible repeat (first | apply Kd.R_alloc | apply Kd.R_drewN | apply Kd.R_drew)); exact Kd.R_mono af.out (fun _ hk => ⟨hk.1.1.1.2, hk.2⟩)⟩, ⟨by (with_reducible repeat (first | refine blk_drewN ?_ _ | refine blk_drew ?_ | refine blk_alloc ?_ _)); exact aa.out⟩, ⟨by repeat (first | (with_reducible first | exact HB.out | apply below_alloc | apply pw_below_drewN | apply below_drew1) | exact HB.out)⟩⟩
           ·rw [if_neg aw] at H
            have c33b0 : (t395 == 0) = false := beq_eq_false_iff_ne.mpr aw
            have c33b1 : (t395 != 0) = true := bne_iff_ne.mpr aw
            have H' := Aside0.mk H
            clear H
            obtain ⟨Ao45, co45, eo45⟩ := Kd.R_slice ae.out
            subst eo45
            go_wp2_with (first | (go_at_call 23; (with_reducible refine (comm_Compare.calls _ _ t377 _ _ t386 t395 _ ?side1 ?side2 ?side3 ?side4 A32.out).mono ?_); (case side1 | side3 => repeat (first | exact (Kd.R_reads' HO_7.out).2.2 | exact (Kd.R_reads' ae.out).2.2 | (with_reducible refine Kd.C_alloc ?_ _) | (with_reducible refine Kd.C_drewN ?_ _) | (with_reducible refine Kd.C_drew ?_))); (case side2 | side4 => first | exact (Kd.R_reads' HO_7.out).2.1 | exact (Kd.R_reads' ae.out).2.1); rintro e w46 ⟨rfl, hb⟩; replace HO_7 := Aside0.mk (Kd.R_below (by (with_reducible repeat (first | apply Kd.R_alloc | apply Kd.R_drewN | apply Kd.R_drew)); exact HO_7.out) hb); replace HO_9 := Aside0.mk (Kd.R_below (by (with_reducible repeat (first | apply Kd.R_alloc | apply Kd.R_drewN | apply Kd.R_drew)); exact HO_9.out) hb); replace ae := Aside0.mk (Kd.R_below (by (with_reducible repeat (first | apply Kd.R_alloc | apply Kd.R_drewN | apply Kd.R_drew)); exact ae.out) hb); replace af := Aside0.mk (Kd.R_below (by (with_reducible repeat (first | apply Kd.R_alloc | apply Kd.R_drewN | apply Kd.R_drew)); exact af.out) hb); replace aa := Aside0.mk (k3d2b.q aa.out hb rfl); replace HB := Aside0.mk (k3d2b.z HB.out hb rfl rfl rfl rfl); (try clear hb); (try clear ah); (try clear hk); (try clear hi)))
            go_meet
            case rel => exact ⟨_, (true), (by first | rfl | (simp; done) | (simp [*]; done)), H', ⟨by have := HJ3.out; have := HK2.out; first | omega | exact Nat.le_refl _⟩, ⟨by (with_reducible repeat (first | apply Kd.R_alloc | apply Kd.R_drewN | apply Kd.R_drew)); exact Kd.R_mono HO_7.out (fun _ hk => ⟨hk.2, hk.1.1.2⟩)⟩, ⟨by (with_reducible repeat (first | apply Kd.R_alloc | apply Kd.R_drewN | apply Kd.R_drew)); exact Kd.R_mono af.out (fun _ hk => ⟨hk.1.1.1.2, hk.2⟩)⟩, ⟨by (with_reducible repeat (first | refine blk_drewN ?_ _ | refine blk_drew ?_ | refine blk_alloc ?_ _)); exact aa.out⟩, ⟨by repeat (first | (with_reducible first | exact HB.out | apply below_alloc | apply pw_below_drewN | apply below_drew1) | exact HB.out)⟩⟩
          ·rw [if_neg av] at H
           have c31b0 : (t391 == 0) = false := beq_eq_false_iff_ne.mpr av
           have c31b1 : (t391 != 0) = true := bne_iff_ne.mpr av
           have H' := Aside0.mk H
           clear H
           go_wp2
           go_meet
           case rel => exact ⟨_, (true), (by first | rfl | (simp; done) | (simp [*]; done)), H', ⟨by have := HJ3.out; have := HK2.out; first | omega | exact Nat.le_refl _⟩, ⟨by (with_reducible repeat (first | apply Kd.R_alloc | apply Kd.R_drewN | apply Kd.R_drew)); exact Kd.R_mono HO_7.out (fun _ hk => ⟨hk.2, hk.1.1.2⟩)⟩, ⟨by (with_reducible repeat (first | apply Kd.R_alloc | apply Kd.R_drewN | apply Kd.R_drew)); exact Kd.R_mono af.out (fun _ hk => ⟨hk.1.1.1.2, hk.2⟩)⟩, ⟨by (with_reducible repeat (first | refine blk_drewN ?_ _ | refine blk_drew ?_ | refine blk_alloc ?_ _)); exact aa.out⟩, ⟨by repeat (first | (with_reducible first | exact HB.out | apply below_alloc | apply pw_below_drewN | apply below_drew1) | exact HB.out)⟩⟩
         ·rw [if_neg au] at H
          have c30b0 : (t387 == 0) = false := beq_eq_false_iff_ne.mpr au
          have c30b1 : (t387 != 0) = true := bne_iff_ne.mpr au
          (first | rw [c30b0] | (simp only [i64_w, i32_w]; rw [c30b0]) | skip)
          have H' := Aside0.mk H
          clear H
          go_wp2
          go_meet
          case rel => exact ⟨_, (true), (by first | rfl | (simp; done) | (simp [*]; done)), H', ⟨by have := HJ3.out; have := HK2.out; first | omega | exact Nat.le_refl _⟩, ⟨by (with_reducible repeat (first | apply Kd.R_alloc | apply Kd.R_drewN | apply Kd.R_drew)); exact Kd.R_mono HO_7.out (fun _ hk => ⟨hk.2, hk.1.1.2⟩)⟩, ⟨by (with_reducible repeat (first | apply Kd.R_alloc | apply Kd.R_drewN | apply Kd.R_drew)); exact Kd.R_mono af.out (fun _ hk => ⟨hk.1.1.1.2, hk.2⟩)⟩, ⟨by (with_reducible repeat (first | refine blk_drewN ?_ _ | refine blk_drew ?_ | refine blk_alloc ?_ _)); exact aa.out⟩, ⟨by repeat (first | (with_reducible first | exact HB.out | apply below_alloc | apply pw_below_drewN | apply below_drew1) | exact HB.out)⟩⟩
        case rest =>
         clear HC23
         try clear c1
         try clear c2
         try clear p2
         try clear c3
         try clear p3
         try clear q3
         try clear hx3
         try clear p6
         try clear c7
         try clear c8
         try clear c9
         try clear aq
         try clear c13b0
         try clear c13b1
         try clear c15
         try clear c15b0
         try clear c16
         try clear c16b0
         try clear c17
         try clear c17b0
         try clear c18
         try clear c19
         try clear c20
         try clear c27
         try clear au
         try clear c30b0
         try clear c30b1
         try clear av
         try clear c31b0
         try clear c31b1
         try clear aw
         try clear c33b0
         try clear c33b1
         try clear c35
         try clear p38
         try clear q38
         try clear hx38
         try clear hcz28_0
         try clear hcz28_1
         try clear hfz28_0
         try clear hfz28_1
         try clear hx382_0
         try clear hx382_1
         try clear p2
         try clear p382
         try clear p6
         try clear q382
         obtain ⟨kq, x89_22, rfl, HA, HJ22, HO_7, HO_13, aa, HB⟩ := hcut
         cases kq with
         | zero => exact absurd HA.out (by simp [whirligiglaw03_CommBack.j2])
         | succ ag =>
          have H := HA.out
          clear HA
          simp only [whirligiglaw03_CommBack.j2] at H
          by_cases c47 : x89_22 = true
          ·subst c47
           have H1 : (some false) = some r := by rw [if_pos rfl] at H; exact H
           clear H
           have H := H1
           clear H1
           obtain rfl := Option.some.inj H
           go_wp2
           go_ret
           exact ⟨by first | rfl | (simp [errW_none, errW_some] <;> rfl) | (simp [*, errW_none, errW_some] <;> rfl), by repeat (first | (with_reducible first | exact HB.out | apply below_alloc | apply pw_below_drewN | apply below_drew1) | exact HB.out)⟩
          ·replace c47 := Bool.eq_false_iff.mpr c47
           subst c47
           have H1 := H
           rw [if_neg (show ¬ (false = true) by decide)] at H1
           clear H
           have H := H1
           clear H1
           replace H := Option.bind_eq_some_iff.mp H
           obtain ⟨t398, A480, H⟩ := H
           (try dsimp only at H)
           have A48 := Aside0.mk A480
           clear A480
           by_cases c49 : t394 = true
           ·subst c49
            have H1 := H
            rw [if_pos rfl] at H1
            clear H
            have H := H1
            clear H1
            by_cases ak : (t398 == true) = true
            ·rw [if_pos ak] at H
             have c50b0 : (t398 == true) = true := ak
             (try (have c50b1 : decide (t398 = true) = true := by simpa using ak))
             (try (have c50b2 : (t398 == true) = true := by simpa using ak))
             clear ak
             replace H := Option.bind_eq_some_iff.mp H
             obtain ⟨t399, A510, H⟩ := H
             (try dsimp only at H)
             have A51 := Aside0.mk A510
             clear A510
             by_cases al : (t399 == false) = true
             ·rw [if_pos al] at H
              have c52b0 : (t399 == false) = true := al
              (try (have c52b1 : decide (t399 = false) = true := by simpa using al))
              (try (have c52b2 : (t399 == false) = true := by simpa using al))
              clear al
              replace H := Option.bind_eq_some_iff.mp H
              obtain ⟨t400, A530, H⟩ := H
              replace H : (some t400) = some r := H
              have A53 := Aside0.mk A530
              clear A530
              obtain rfl := Option.some.inj H
              have hcz54_0 : wc.cell? ⟨ab, 0, none⟩ = some (.int .i64 ac) := (blk_cell aa.out 0).trans rfl
              have hcz54_1 : wc.cell? ⟨ab, 1, none⟩ = some (.int .i64 ad) := (blk_cell aa.out 1).trans rfl
              have hfz54_0 := blk_frozen aa.out 0
              have hfz54_1 := blk_frozen aa.out 1
              go_wp2_with (first | ((with_reducible refine gate_callee (f := 26) rfl ?_); refine goesL_ (some 92) rfl rfl Try.func26 (by kernel_rfl) rfl #[.slice ai t377.length aj, .agg #[.int .i64 ac, .int .i64 ad]] rfl (by (try simp only [List.map_toArray, List.map_cons, List.map_nil]); first | done | rfl) ?_; (with_reducible refine (comm_Has.calls ag _ _ t377 ac ad t398 _ ?side1 ?side2 A48.out).mono ?_); (case side1 => repeat (first | exact (Kd.R_reads' HO_7.out).2.2 | (with_reducible refine Kd.C_alloc ?_ _) | (with_reducible refine Kd.C_drewN ?_ _) | (with_reducible refine Kd.C_drew ?_))); (case side2 => exact (Kd.R_reads' HO_7.out).2.1); rintro e w55 ⟨rfl, hb⟩; refine ⟨_, rfl, ?_⟩; replace HO_7 := Aside0.mk (Kd.R_below (by (with_reducible repeat (first | apply Kd.R_alloc | apply Kd.R_drewN | apply Kd.R_drew)); exact HO_7.out) hb); replace HO_13 := Aside0.mk (Kd.R_below (by (with_reducible repeat (first | apply Kd.R_alloc | apply Kd.R_drewN | apply Kd.R_drew)); exact HO_13.out) hb); replace aa := Aside0.mk (k3d2b.q aa.out hb rfl); replace HB := Aside0.mk (k3d2b.z HB.out hb rfl rfl rfl rfl); (try clear hb); (try clear ah); (try clear hk); (try clear hi); have hcz56_0 : w55.cell? ⟨ab, 0, none⟩ = some (.int .i64 ac) := (blk_cell aa.out 0).trans rfl; have hcz56_1 : w55.cell? ⟨ab, 1, none⟩ = some (.int .i64 ad) := (blk_cell aa.out 1).trans rfl; have hfz56_0 := blk_frozen aa.out 0; have hfz56_1 := blk_frozen aa.out 1; obtain ⟨Ao57, co57, eo57⟩ := Kd.R_slice HO_13.out; subst eo57) | (go_at_call 26; (with_reducible refine (comm_Has.calls ag _ _ t390 ac ad t399 _ ?side1 ?side2 A51.out).mono ?_); (case side1 => repeat (first | exact (Kd.R_reads' HO_13.out).2.2 | (with_reducible refine Kd.C_alloc ?_ _) | (with_reducible refine Kd.C_drewN ?_ _) | (with_reducible refine Kd.C_drew ?_))); (case side2 => exact (Kd.R_reads' HO_13.out).2.1); rintro e w58 ⟨rfl, hb⟩; replace HO_7 := Aside0.mk (Kd.R_below (by (with_reducible repeat (first | apply Kd.R_alloc | apply Kd.R_drewN | apply Kd.R_drew)); exact HO_7.out) hb); replace HO_13 := Aside0.mk (Kd.R_below (by (with_reducible repeat (first | apply Kd.R_alloc | apply Kd.R_drewN | apply Kd.R_drew)); exact HO_13.out) hb); replace aa := Aside0.mk (k3d2b.q aa.out hb rfl); replace HB := Aside0.mk (k3d2b.z HB.out hb rfl rfl rfl rfl); (try clear hb); (try clear ah); (try clear hk); (try clear hi)) | (go_at_call 9; (with_reducible refine (whirligiglaw03_lives.calls ag  t400 _ A53.out).mono ?_); rintro e w59 ⟨rfl, hb⟩; replace HO_7 := Aside0.mk (Kd.R_below (by (with_reducible repeat (first | apply Kd.R_alloc | apply Kd.R_drewN | apply Kd.R_drew)); exact HO_7.out) hb); replace HO_13 := Aside0.mk (Kd.R_below (by (with_reducible repeat (first | apply Kd.R_alloc | apply Kd.R_drewN | apply Kd.R_drew)); exact HO_13.out) hb); replace aa := Aside0.mk (k3d2b.q aa.out hb rfl); replace HB := Aside0.mk (k3d2b.z HB.out hb rfl rfl rfl rfl); (try clear hb); (try clear ah); (try clear hk); (try clear hi)))
              go_ret
              exact ⟨by first | rfl | (simp [errW_none, errW_some] <;> rfl) | (simp [*, errW_none, errW_some] <;> rfl), by repeat (first | (with_reducible first | exact HB.out | apply below_alloc | apply pw_below_drewN | apply below_drew1) | exact HB.out)⟩
             ·rw [if_neg al] at H
              have c52b0 : (t399 == false) = false := by simpa using al
              (try (have c52b1 : decide (t399 = false) = false := by simpa using al))
              (try (have c52b2 : (t399 == false) = false := by simpa using al))
              (try (have c52b3 : ¬ (t399 = false) := by simpa using al))
              clear al
              obtain rfl := Option.some.inj H
              have hcz60_0 : wc.cell? ⟨ab, 0, none⟩ = some (.int .i64 ac) := (blk_cell aa.out 0).trans rfl
              have hcz60_1 : wc.cell? ⟨ab, 1, none⟩ = some (.int .i64 ad) := (blk_cell aa.out 1).trans rfl
              have hfz60_0 := blk_frozen aa.out 0
              have hfz60_1 := blk_frozen aa.out 1
              go_wp2_with (first | ((with_reducible refine gate_callee (f := 26) rfl ?_); refine goesL_ (some 92) rfl rfl Try.func26 (by kernel_rfl) rfl #[.slice ai t377.length aj, .agg #[.int .i64 ac, .int .i64 ad]] rfl (by (try simp only [List.map_toArray, List.map_cons, List.map_nil]); first | done | rfl) ?_; (with_reducible refine (comm_Has.calls ag _ _ t377 ac ad t398 _ ?side1 ?side2 A48.out).mono ?_); (case side1 => repeat (first | exact (Kd.R_reads' HO_7.out).2.2 | (with_reducible refine Kd.C_alloc ?_ _) | (with_reducible refine Kd.C_drewN ?_ _) | (with_reducible refine Kd.C_drew ?_))); (case side2 => exact (Kd.R_reads' HO_7.out).2.1); rintro e w61 ⟨rfl, hb⟩; refine ⟨_, rfl, ?_⟩; replace HO_7 := Aside0.mk (Kd.R_below (by (with_reducible repeat (first | apply Kd.R_alloc | apply Kd.R_drewN | apply Kd.R_drew)); exact HO_7.out) hb); replace HO_13 := Aside0.mk (Kd.R_below (by (with_reducible repeat (first | apply Kd.R_alloc | apply Kd.R_drewN | apply Kd.R_drew)); exact HO_13.out) hb); replace aa := Aside0.mk (k3d2b.q aa.out hb rfl); replace HB := Aside0.mk (k3d2b.z HB.out hb rfl rfl rfl rfl); (try clear hb); (try clear ah); (try clear hk); (try clear hi); have hcz62_0 : w61.cell? ⟨ab, 0, none⟩ = some (.int .i64 ac) := (blk_cell aa.out 0).trans rfl; have hcz62_1 : w61.cell? ⟨ab, 1, none⟩ = some (.int .i64 ad) := (blk_cell aa.out 1).trans rfl; have hfz62_0 := blk_frozen aa.out 0; have hfz62_1 := blk_frozen aa.out 1; obtain ⟨Ao63, co63, eo63⟩ := Kd.R_slice HO_13.out; subst eo63) | (go_at_call 26; (with_reducible refine (comm_Has.calls ag _ _ t390 ac ad t399 _ ?side1 ?side2 A51.out).mono ?_); (case side1 => repeat (first | exact (Kd.R_reads' HO_13.out).2.2 | (with_reducible refine Kd.C_alloc ?_ _) | (with_reducible refine Kd.C_drewN ?_ _) | (with_reducible refine Kd.C_drew ?_))); (case side2 => exact (Kd.R_reads' HO_13.out).2.1); rintro e w64 ⟨rfl, hb⟩; replace HO_7 := Aside0.mk (Kd.R_below (by (with_reducible repeat (first | apply Kd.R_alloc | apply Kd.R_drewN | apply Kd.R_drew)); exact HO_7.out) hb); replace HO_13 := Aside0.mk (Kd.R_below (by (with_reducible repeat (first | apply Kd.R_alloc | apply Kd.R_drewN | apply Kd.R_drew)); exact HO_13.out) hb); replace aa := Aside0.mk (k3d2b.q aa.out hb rfl); replace HB := Aside0.mk (k3d2b.z HB.out hb rfl rfl rfl rfl); (try clear hb); (try clear ah); (try clear hk); (try clear hi)))
              go_ret
              exact ⟨by first | rfl | (simp [errW_none, errW_some] <;> rfl) | (simp [*, errW_none, errW_some] <;> rfl), by repeat (first | (with_reducible first | exact HB.out | apply below_alloc | apply pw_below_drewN | apply below_drew1) | exact HB.out)⟩
            ·rw [if_neg ak] at H
             have c50b0 : (t398 == true) = false := by simpa using ak
             (try (have c50b1 : decide (t398 = true) = false := by simpa using ak))
             (try (have c50b2 : (t398 == true) = false := by simpa using ak))
             (try (have c50b3 : ¬ (t398 = true) := by simpa using ak))
             clear ak
             obtain rfl := Option.some.inj H
             have hcz65_0 : wc.cell? ⟨ab, 0, none⟩ = some (.int .i64 ac) := (blk_cell aa.out 0).trans rfl
             have hcz65_1 : wc.cell? ⟨ab, 1, none⟩ = some (.int .i64 ad) := (blk_cell aa.out 1).trans rfl
             have hfz65_0 := blk_frozen aa.out 0
             have hfz65_1 := blk_frozen aa.out 1
             go_wp2_with (first | ((with_reducible refine gate_callee (f := 26) rfl ?_); refine goesL_ (some 92) rfl rfl Try.func26 (by kernel_rfl) rfl #[.slice ai t377.length aj, .agg #[.int .i64 ac, .int .i64 ad]] rfl (by (try simp only [List.map_toArray, List.map_cons, List.map_nil]); first | done | rfl) ?_; (with_reducible refine (comm_Has.calls ag _ _ t377 ac ad t398 _ ?side1 ?side2 A48.out).mono ?_); (case side1 => repeat (first | exact (Kd.R_reads' HO_7.out).2.2 | (with_reducible refine Kd.C_alloc ?_ _) | (with_reducible refine Kd.C_drewN ?_ _) | (with_reducible refine Kd.C_drew ?_))); (case side2 => exact (Kd.R_reads' HO_7.out).2.1); rintro e w66 ⟨rfl, hb⟩; refine ⟨_, rfl, ?_⟩; replace HO_7 := Aside0.mk (Kd.R_below (by (with_reducible repeat (first | apply Kd.R_alloc | apply Kd.R_drewN | apply Kd.R_drew)); exact HO_7.out) hb); replace HO_13 := Aside0.mk (Kd.R_below (by (with_reducible repeat (first | apply Kd.R_alloc | apply Kd.R_drewN | apply Kd.R_drew)); exact HO_13.out) hb); replace aa := Aside0.mk (k3d2b.q aa.out hb rfl); replace HB := Aside0.mk (k3d2b.z HB.out hb rfl rfl rfl rfl); (try clear hb); (try clear ah); (try clear hk); (try clear hi)))
             go_ret
             exact ⟨by first | rfl | (simp [errW_none, errW_some] <;> rfl) | (simp [*, errW_none, errW_some] <;> rfl), by repeat (first | (with_reducible first | exact HB.out | apply below_alloc | apply pw_below_drewN | apply below_drew1) | exact HB.out)⟩
           ·replace c49 := Bool.eq_false_iff.mpr c49
            subst c49
            have H1 := H
            rw [if_neg (show ¬ (false = true) by decide)] at H1
            clear H
            have H := H1
            clear H1
            replace H := Option.bind_eq_some_iff.mp H
            obtain ⟨t401, A670, H⟩ := H
            (try dsimp only at H)
            have A67 := Aside0.mk A670
            clear A670
            by_cases am : (t398 == t401) = true
            ·rw [if_pos am] at H
             have c68b0 : (t398 == t401) = true := am
             (try (have c68b1 : decide (t398 = t401) = true := by simpa using am))
             (try (have c68b2 : (t398 == t401) = true := by simpa using am))
             clear am
             replace H := Option.bind_eq_some_iff.mp H
             obtain ⟨t402, A690, H⟩ := H
             (try dsimp only at H)
             have A69 := Aside0.mk A690
             clear A690
             replace H := Option.bind_eq_some_iff.mp H
             obtain ⟨t403, A700, H⟩ := H
             (try dsimp only at H)
             have A70 := Aside0.mk A700
             clear A700
             by_cases an : (t402 == t403) = true
             ·rw [if_pos an] at H
              have c71b0 : (t402 == t403) = true := an
              (try (have c71b1 : decide (t402 = t403) = true := by simpa using an))
              (try (have c71b2 : (t402 == t403) = true := by simpa using an))
              clear an
              replace H := Option.bind_eq_some_iff.mp H
              obtain ⟨t404, A720, H⟩ := H
              replace H : (some t404) = some r := H
              have A72 := Aside0.mk A720
              clear A720
              obtain rfl := Option.some.inj H
              have hcz73_0 : wc.cell? ⟨ab, 0, none⟩ = some (.int .i64 ac) := (blk_cell aa.out 0).trans rfl
              have hcz73_1 : wc.cell? ⟨ab, 1, none⟩ = some (.int .i64 ad) := (blk_cell aa.out 1).trans rfl
              have hfz73_0 := blk_frozen aa.out 0
              have hfz73_1 := blk_frozen aa.out 1
              go_wp2_with (first | ((with_reducible refine gate_callee (f := 26) rfl ?_); refine goesL_ (some 92) rfl rfl Try.func26 (by kernel_rfl) rfl #[.slice ai t377.length aj, .agg #[.int .i64 ac, .int .i64 ad]] rfl (by (try simp only [List.map_toArray, List.map_cons, List.map_nil]); first | done | rfl) ?_; (with_reducible refine (comm_Has.calls ag _ _ t377 ac ad t398 _ ?side1 ?side2 A48.out).mono ?_); (case side1 => repeat (first | exact (Kd.R_reads' HO_7.out).2.2 | (with_reducible refine Kd.C_alloc ?_ _) | (with_reducible refine Kd.C_drewN ?_ _) | (with_reducible refine Kd.C_drew ?_))); (case side2 => exact (Kd.R_reads' HO_7.out).2.1); rintro e w74 ⟨rfl, hb⟩; refine ⟨_, rfl, ?_⟩; replace HO_7 := Aside0.mk (Kd.R_below (by (with_reducible repeat (first | apply Kd.R_alloc | apply Kd.R_drewN | apply Kd.R_drew)); exact HO_7.out) hb); replace HO_13 := Aside0.mk (Kd.R_below (by (with_reducible repeat (first | apply Kd.R_alloc | apply Kd.R_drewN | apply Kd.R_drew)); exact HO_13.out) hb); replace aa := Aside0.mk (k3d2b.q aa.out hb rfl); replace HB := Aside0.mk (k3d2b.z HB.out hb rfl rfl rfl rfl); (try clear hb); (try clear ah); (try clear hk); (try clear hi); have hcz75_0 : w74.cell? ⟨ab, 0, none⟩ = some (.int .i64 ac) := (blk_cell aa.out 0).trans rfl; have hcz75_1 : w74.cell? ⟨ab, 1, none⟩ = some (.int .i64 ad) := (blk_cell aa.out 1).trans rfl; have hfz75_0 := blk_frozen aa.out 0; have hfz75_1 := blk_frozen aa.out 1) | (go_at_call 26; (with_reducible refine (comm_Has.calls ag _ _ l0 ac ad t401 _ ?side1 ?side2 A67.out).mono ?_); (case side1 => repeat (first | exact (Kd.C_below ao.out HB.out) | (with_reducible refine Kd.C_alloc ?_ _) | (with_reducible refine Kd.C_drewN ?_ _) | (with_reducible refine Kd.C_drew ?_))); (case side2 => exact ap.out); rintro e w76 ⟨rfl, hb⟩; replace HO_7 := Aside0.mk (Kd.R_below (by (with_reducible repeat (first | apply Kd.R_alloc | apply Kd.R_drewN | apply Kd.R_drew)); exact HO_7.out) hb); replace HO_13 := Aside0.mk (Kd.R_below (by (with_reducible repeat (first | apply Kd.R_alloc | apply Kd.R_drewN | apply Kd.R_drew)); exact HO_13.out) hb); replace aa := Aside0.mk (k3d2b.q aa.out hb rfl); replace HB := Aside0.mk (k3d2b.z HB.out hb rfl rfl rfl rfl); (try clear hb); (try clear ah); (try clear hk); (try clear hi); have hcz77_0 : w76.cell? ⟨ab, 0, none⟩ = some (.int .i64 ac) := (blk_cell aa.out 0).trans rfl; have hcz77_1 : w76.cell? ⟨ab, 1, none⟩ = some (.int .i64 ad) := (blk_cell aa.out 1).trans rfl; have hfz77_0 := blk_frozen aa.out 0; have hfz77_1 := blk_frozen aa.out 1; obtain ⟨Ao78, co78, eo78⟩ := Kd.R_slice HO_13.out; subst eo78) | (go_at_call 26; (with_reducible refine (comm_Has.calls ag _ _ t390 ac ad t402 _ ?side1 ?side2 A69.out).mono ?_); (case side1 => repeat (first | exact (Kd.R_reads' HO_13.out).2.2 | (with_reducible refine Kd.C_alloc ?_ _) | (with_reducible refine Kd.C_drewN ?_ _) | (with_reducible refine Kd.C_drew ?_))); (case side2 => exact (Kd.R_reads' HO_13.out).2.1); rintro e w79 ⟨rfl, hb⟩; replace HO_7 := Aside0.mk (Kd.R_below (by (with_reducible repeat (first | apply Kd.R_alloc | apply Kd.R_drewN | apply Kd.R_drew)); exact HO_7.out) hb); replace HO_13 := Aside0.mk (Kd.R_below (by (with_reducible repeat (first | apply Kd.R_alloc | apply Kd.R_drewN | apply Kd.R_drew)); exact HO_13.out) hb); replace aa := Aside0.mk (k3d2b.q aa.out hb rfl); replace HB := Aside0.mk (k3d2b.z HB.out hb rfl rfl rfl rfl); (try clear hb); (try clear ah); (try clear hk); (try clear hi); have hcz80_0 : w79.cell? ⟨ab, 0, none⟩ = some (.int .i64 ac) := (blk_cell aa.out 0).trans rfl; have hcz80_1 : w79.cell? ⟨ab, 1, none⟩ = some (.int .i64 ad) := (blk_cell aa.out 1).trans rfl; have hfz80_0 := blk_frozen aa.out 0; have hfz80_1 := blk_frozen aa.out 1) | (go_at_call 26; (with_reducible refine (comm_Has.calls ag _ _ l0 ac ad t403 _ ?side1 ?side2 A70.out).mono ?_); (case side1 => repeat (first | exact (Kd.C_below ao.out HB.out) | (with_reducible refine Kd.C_alloc ?_ _) | (with_reducible refine Kd.C_drewN ?_ _) | (with_reducible refine Kd.C_drew ?_))); (case side2 => exact ap.out); rintro e w81 ⟨rfl, hb⟩; replace HO_7 := Aside0.mk (Kd.R_below (by (with_reducible repeat (first | apply Kd.R_alloc | apply Kd.R_drewN | apply Kd.R_drew)); exact HO_7.out) hb); replace HO_13 := Aside0.mk (Kd.R_below (by (with_reducible repeat (first | apply Kd.R_alloc | apply Kd.R_drewN | apply Kd.R_drew)); exact HO_13.out) hb); replace aa := Aside0.mk (k3d2b.q aa.out hb rfl); replace HB := Aside0.mk (k3d2b.z HB.out hb rfl rfl rfl rfl); (try clear hb); (try clear ah); (try clear hk); (try clear hi)) | (go_at_call 9; (with_reducible refine (whirligiglaw03_lives.calls ag  t404 _ A72.out).mono ?_); rintro e w82 ⟨rfl, hb⟩; replace HO_7 := Aside0.mk (Kd.R_below (by (with_reducible repeat (first | apply Kd.R_alloc | apply Kd.R_drewN | apply Kd.R_drew)); exact HO_7.out) hb); replace HO_13 := Aside0.mk (Kd.R_below (by (with_reducible repeat (first | apply Kd.R_alloc | apply Kd.R_drewN | apply Kd.R_drew)); exact HO_13.out) hb); replace aa := Aside0.mk (k3d2b.q aa.out hb rfl); replace HB := Aside0.mk (k3d2b.z HB.out hb rfl rfl rfl rfl); (try clear hb); (try clear ah); (try clear hk); (try clear hi)))
              go_ret
              exact ⟨by first | rfl | (simp [errW_none, errW_some] <;> rfl) | (simp [*, errW_none, errW_some] <;> rfl), by repeat (first | (with_reducible first | exact HB.out | apply below_alloc | apply pw_below_drewN | apply below_drew1) | exact HB.out)⟩
             ·rw [if_neg an] at H
              have c71b0 : (t402 == t403) = false := by simpa using an
              (try (have c71b1 : decide (t402 = t403) = false := by simpa using an))
              (try (have c71b2 : (t402 == t403) = false := by simpa using an))
              (try (have c71b3 : ¬ (t402 = t403) := by simpa using an))
              clear an
              obtain rfl := Option.some.inj H
              have hcz83_0 : wc.cell? ⟨ab, 0, none⟩ = some (.int .i64 ac) := (blk_cell aa.out 0).trans rfl
              have hcz83_1 : wc.cell? ⟨ab, 1, none⟩ = some (.int .i64 ad) := (blk_cell aa.out 1).trans rfl
              have hfz83_0 := blk_frozen aa.out 0
              have hfz83_1 := blk_frozen aa.out 1
              go_wp2_with (first | ((with_reducible refine gate_callee (f := 26) rfl ?_); refine goesL_ (some 92) rfl rfl Try.func26 (by kernel_rfl) rfl #[.slice ai t377.length aj, .agg #[.int .i64 ac, .int .i64 ad]] rfl (by (try simp only [List.map_toArray, List.map_cons, List.map_nil]); first | done | rfl) ?_; (with_reducible refine (comm_Has.calls ag _ _ t377 ac ad t398 _ ?side1 ?side2 A48.out).mono ?_); (case side1 => repeat (first | exact (Kd.R_reads' HO_7.out).2.2 | (with_reducible refine Kd.C_alloc ?_ _) | (with_reducible refine Kd.C_drewN ?_ _) | (with_reducible refine Kd.C_drew ?_))); (case side2 => exact (Kd.R_reads' HO_7.out).2.1); rintro e w84 ⟨rfl, hb⟩; refine ⟨_, rfl, ?_⟩; replace HO_7 := Aside0.mk (Kd.R_below (by (with_reducible repeat (first | apply Kd.R_alloc | apply Kd.R_drewN | apply Kd.R_drew)); exact HO_7.out) hb); replace HO_13 := Aside0.mk (Kd.R_below (by (with_reducible repeat (first | apply Kd.R_alloc | apply Kd.R_drewN | apply Kd.R_drew)); exact HO_13.out) hb); replace aa := Aside0.mk (k3d2b.q aa.out hb rfl); replace HB := Aside0.mk (k3d2b.z HB.out hb rfl rfl rfl rfl); (try clear hb); (try clear ah); (try clear hk); (try clear hi); have hcz85_0 : w84.cell? ⟨ab, 0, none⟩ = some (.int .i64 ac) := (blk_cell aa.out 0).trans rfl; have hcz85_1 : w84.cell? ⟨ab, 1, none⟩ = some (.int .i64 ad) := (blk_cell aa.out 1).trans rfl; have hfz85_0 := blk_frozen aa.out 0; have hfz85_1 := blk_frozen aa.out 1) | (go_at_call 26; (with_reducible refine (comm_Has.calls ag _ _ l0 ac ad t401 _ ?side1 ?side2 A67.out).mono ?_); (case side1 => repeat (first | exact (Kd.C_below ao.out HB.out) | (with_reducible refine Kd.C_alloc ?_ _) | (with_reducible refine Kd.C_drewN ?_ _) | (with_reducible refine Kd.C_drew ?_))); (case side2 => exact ap.out); rintro e w86 ⟨rfl, hb⟩; replace HO_7 := Aside0.mk (Kd.R_below (by (with_reducible repeat (first | apply Kd.R_alloc | apply Kd.R_drewN | apply Kd.R_drew)); exact HO_7.out) hb); replace HO_13 := Aside0.mk (Kd.R_below (by (with_reducible repeat (first | apply Kd.R_alloc | apply Kd.R_drewN | apply Kd.R_drew)); exact HO_13.out) hb); replace aa := Aside0.mk (k3d2b.q aa.out hb rfl); replace HB := Aside0.mk (k3d2b.z HB.out hb rfl rfl rfl rfl); (try clear hb); (try clear ah); (try clear hk); (try clear hi); have hcz87_0 : w86.cell? ⟨ab, 0, none⟩ = some (.int .i64 ac) := (blk_cell aa.out 0).trans rfl; have hcz87_1 : w86.cell? ⟨ab, 1, none⟩ = some (.int .i64 ad) := (blk_cell aa.out 1).trans rfl; have hfz87_0 := blk_frozen aa.out 0; have hfz87_1 := blk_frozen aa.out 1; obtain ⟨Ao88, co88, eo88⟩ := Kd.R_slice HO_13.out; subst eo88) | (go_at_call 26; (with_reducible refine (comm_Has.calls ag _ _ t390 ac ad t402 _ ?side1 ?side2 A69.out).mono ?_); (case side1 => repeat (first | exact (Kd.R_reads' HO_13.out).2.2 | (with_reducible refine Kd.C_alloc ?_ _) | (with_reducible refine Kd.C_drewN ?_ _) | (with_reducible refine Kd.C_drew ?_))); (case side2 => exact (Kd.R_reads' HO_13.out).2.1); rintro e w89 ⟨rfl, hb⟩; replace HO_7 := Aside0.mk (Kd.R_below (by (with_reducible repeat (first | apply Kd.R_alloc | apply Kd.R_drewN | apply Kd.R_drew)); exact HO_7.out) hb); replace HO_13 := Aside0.mk (Kd.R_below (by (with_reducible repeat (first | apply Kd.R_alloc | apply Kd.R_drewN | apply Kd.R_drew)); exact HO_13.out) hb); replace aa := Aside0.mk (k3d2b.q aa.out hb rfl); replace HB := Aside0.mk (k3d2b.z HB.out hb rfl rfl rfl rfl); (try clear hb); (try clear ah); (try clear hk); (try clear hi); have hcz90_0 : w89.cell? ⟨ab, 0, none⟩ = some (.int .i64 ac) := (blk_cell aa.out 0).trans rfl; have hcz90_1 : w89.cell? ⟨ab, 1, none⟩ = some (.int .i64 ad) := (blk_cell aa.out 1).trans rfl; have hfz90_0 := blk_frozen aa.out 0; have hfz90_1 := blk_frozen aa.out 1) | (go_at_call 26; (with_reducible refine (comm_Has.calls ag _ _ l0 ac ad t403 _ ?side1 ?side2 A70.out).mono ?_); (case side1 => repeat (first | exact (Kd.C_below ao.out HB.out) | (with_reducible refine Kd.C_alloc ?_ _) | (with_reducible refine Kd.C_drewN ?_ _) | (with_reducible refine Kd.C_drew ?_))); (case side2 => exact ap.out); rintro e w91 ⟨rfl, hb⟩; replace HO_7 := Aside0.mk (Kd.R_below (by (with_reducible repeat (first | apply Kd.R_alloc | apply Kd.R_drewN | apply Kd.R_drew)); exact HO_7.out) hb); replace HO_13 := Aside0.mk (Kd.R_below (by (with_reducible repeat (first | apply Kd.R_alloc | apply Kd.R_drewN | apply Kd.R_drew)); exact HO_13.out) hb); replace aa := Aside0.mk (k3d2b.q aa.out hb rfl); replace HB := Aside0.mk (k3d2b.z HB.out hb rfl rfl rfl rfl); (try clear hb); (try clear ah); (try clear hk); (try clear hi)))
              go_ret
              exact ⟨by first | rfl | (simp [errW_none, errW_some] <;> rfl) | (simp [*, errW_none, errW_some] <;> rfl), by repeat (first | (with_reducible first | exact HB.out | apply below_alloc | apply pw_below_drewN | apply below_drew1) | exact HB.out)⟩
            ·rw [if_neg am] at H
             have c68b0 : (t398 == t401) = false := by simpa using am
             (try (have c68b1 : decide (t398 = t401) = false := by simpa using am))
             (try (have c68b2 : (t398 == t401) = false := by simpa using am))
             (try (have c68b3 : ¬ (t398 = t401) := by simpa using am))
             clear am
             obtain rfl := Option.some.inj H
             have hcz92_0 : wc.cell? ⟨ab, 0, none⟩ = some (.int .i64 ac) := (blk_cell aa.out 0).trans rfl
             have hcz92_1 : wc.cell? ⟨ab, 1, none⟩ = some (.int .i64 ad) := (blk_cell aa.out 1).trans rfl
             have hfz92_0 := blk_frozen aa.out 0
             have hfz92_1 := blk_frozen aa.out 1
             go_wp2_with (first | ((with_reducible refine gate_callee (f := 26) rfl ?_); refine goesL_ (some 92) rfl rfl Try.func26 (by kernel_rfl) rfl #[.slice ai t377.length aj, .agg #[.int .i64 ac, .int .i64 ad]] rfl (by (try simp only [List.map_toArray, List.map_cons, List.map_nil]); first | done | rfl) ?_; (with_reducible refine (comm_Has.calls ag _ _ t377 ac ad t398 _ ?side1 ?side2 A48.out).mono ?_); (case side1 => repeat (first | exact (Kd.R_reads' HO_7.out).2.2 | (with_reducible refine Kd.C_alloc ?_ _) | (with_reducible refine Kd.C_drewN ?_ _) | (with_reducible refine Kd.C_drew ?_))); (case side2 => exact (Kd.R_reads' HO_7.out).2.1); rintro e w93 ⟨rfl, hb⟩; refine ⟨_, rfl, ?_⟩; replace HO_7 := Aside0.mk (Kd.R_below (by (with_reducible repeat (first | apply Kd.R_alloc | apply Kd.R_drewN | apply Kd.R_drew)); exact HO_7.out) hb); replace HO_13 := Aside0.mk (Kd.R_below (by (with_reducible repeat (first | apply Kd.R_alloc | apply Kd.R_drewN | apply Kd.R_drew)); exact HO_13.out) hb); replace aa := Aside0.mk (k3d2b.q aa.out hb rfl); replace HB := Aside0.mk (k3d2b.z HB.out hb rfl rfl rfl rfl); (try clear hb); (try clear ah); (try clear hk); (try clear hi); have hcz94_0 : w93.cell? ⟨ab, 0, none⟩ = some (.int .i64 ac) := (blk_cell aa.out 0).trans rfl; have hcz94_1 : w93.cell? ⟨ab, 1, none⟩ = some (.int .i64 ad) := (blk_cell aa.out 1).trans rfl; have hfz94_0 := blk_frozen aa.out 0; have hfz94_1 := blk_frozen aa.out 1) | (go_at_call 26; (with_reducible refine (comm_Has.calls ag _ _ l0 ac ad t401 _ ?side1 ?side2 A67.out).mono ?_); (case side1 => repeat (first | exact (Kd.C_below ao.out HB.out) | (with_reducible refine Kd.C_alloc ?_ _) | (with_reducible refine Kd.C_drewN ?_ _) | (with_reducible refine Kd.C_drew ?_))); (case side2 => exact ap.out); rintro e w95 ⟨rfl, hb⟩; replace HO_7 := Aside0.mk (Kd.R_below (by (with_reducible repeat (first | apply Kd.R_alloc | apply Kd.R_drewN | apply Kd.R_drew)); exact HO_7.out) hb); replace HO_13 := Aside0.mk (Kd.R_below (by (with_reducible repeat (first | apply Kd.R_alloc | apply Kd.R_drewN | apply Kd.R_drew)); exact HO_13.out) hb); replace aa := Aside0.mk (k3d2b.q aa.out hb rfl); replace HB := Aside0.mk (k3d2b.z HB.out hb rfl rfl rfl rfl); (try clear hb); (try clear ah); (try clear hk); (try clear hi)))
             go_ret
             exact ⟨by first | rfl | (simp [errW_none, errW_some] <;> rfl) | (simp [*, errW_none, errW_some] <;> rfl), by repeat (first | (with_reducible first | exact HB.out | apply below_alloc | apply pw_below_drewN | apply below_drew1) | exact HB.out)⟩
    ·rw [if_neg aq] at H
     have c13b0 : (t378 == 0) = false := beq_eq_false_iff_ne.mpr aq
     have c13b1 : (t378 != 0) = true := bne_iff_ne.mpr aq
     by_cases ax : (t377.length : Int) = 0
     ·rw [if_pos ax] at H
      have c96b0 : ((t377.length : Int) == 0) = true := beq_iff_eq.mpr ax
      have c96b1 : ((t377.length : Int) != 0) = false := bne_eq_false_iff_eq.mpr ax
      clear ax
      replace H := Option.bind_eq_some_iff.mp H
      obtain ⟨t381, A970, H⟩ := H
      replace H : (some t381) = some r := H
      have A97 := Aside0.mk A970
      clear A970
      obtain rfl := Option.some.inj H
      go_wp2_with (first | ((with_reducible refine gate_callee (f := 20) rfl ?_); refine goesL_ (some 28) rfl rfl Try.func20 (by kernel_rfl) rfl #[.slice A0 l0.length c0, .slice A1 l1.length c1] rfl (by (try simp only [List.map_toArray, List.map_cons, List.map_nil]); first | done | rfl) ?_; (with_reducible refine (comm_Add.calls ar _ _ l0 _ _ l1 t377 t378 _ ?side1 ?side2 ?side3 ?side4 A12.out).mono ?_); (case side1 | side3 => repeat (first | exact (Kd.C_below ao.out HB.out) | exact (Kd.C_below HR1.out HB.out) | (with_reducible refine Kd.C_alloc ?_ _) | (with_reducible refine Kd.C_drewN ?_ _) | (with_reducible refine Kd.C_drew ?_))); (case side2 | side4 => first | exact ap.out | exact HC1.out); rintro e w98 ⟨v379, rfl, ho0, hb⟩; refine ⟨_, rfl, ?_⟩; have HO380 := Aside0.mk (Kd.R_lower (Kd.R_newB ho0 (g := ab) (o := .cells #[.int .i64 ac, .int .i64 ad] 23 (0, 0)) (by (with_reducible repeat (first | refine blk_drewN ?_ _ | refine blk_drew ?_ | refine blk_alloc ?_ _)); exact aa.out)) (below_size (by repeat (first | (with_reducible first | exact HB.out | apply below_alloc | apply pw_below_drewN | apply below_drew1) | exact HB.out)))); replace aa := Aside0.mk (k3d2b.q aa.out hb rfl); replace HB := Aside0.mk (k3d2b.z HB.out hb rfl rfl rfl rfl); (try clear hb); (try clear ah); (try clear hk); (try clear hi); (try clear ho0); obtain ⟨Ao99, co99, eo99⟩ := Kd.R_slice HO380.out; subst eo99) | (go_at_call 9; (with_reducible refine (whirligiglaw03_lives.calls ar  t381 _ A97.out).mono ?_); rintro e w100 ⟨rfl, hb⟩; replace HO380 := Aside0.mk (Kd.R_below (by (with_reducible repeat (first | apply Kd.R_alloc | apply Kd.R_drewN | apply Kd.R_drew)); exact HO380.out) hb); replace aa := Aside0.mk (k3d2b.q aa.out hb rfl); replace HB := Aside0.mk (k3d2b.z HB.out hb rfl rfl rfl rfl); (try clear hb); (try clear ah); (try clear hk); (try clear hi)))
      go_ret
      exact ⟨by first | rfl | (simp [errW_none, errW_some] <;> rfl) | (simp [*, errW_none, errW_some] <;> rfl), by repeat (first | (with_reducible first | exact HB.out | apply below_alloc | apply pw_below_drewN | apply below_drew1) | exact HB.out)⟩
     ·rw [if_neg ax] at H
      have c96b0 : ((t377.length : Int) == 0) = false := beq_eq_false_iff_ne.mpr ax
      have c96b1 : ((t377.length : Int) != 0) = true := bne_iff_ne.mpr ax
      have c96b2 : ¬ (t377 = []) := fun h_ => ax (by rw [h_]; rfl)
      obtain rfl := Option.some.inj H
      go_wp2_with (first | ((with_reducible refine gate_callee (f := 20) rfl ?_); refine goesL_ (some 28) rfl rfl Try.func20 (by kernel_rfl) rfl #[.slice A0 l0.length c0, .slice A1 l1.length c1] rfl (by (try simp only [List.map_toArray, List.map_cons, List.map_nil]); first | done | rfl) ?_; (with_reducible refine (comm_Add.calls ar _ _ l0 _ _ l1 t377 t378 _ ?side1 ?side2 ?side3 ?side4 A12.out).mono ?_); (case side1 | side3 => repeat (first | exact (Kd.C_below ao.out HB.out) | exact (Kd.C_below HR1.out HB.out) | (with_reducible refine Kd.C_alloc ?_ _) | (with_reducible refine Kd.C_drewN ?_ _) | (with_reducible refine Kd.C_drew ?_))); (case side2 | side4 => first | exact ap.out | exact HC1.out); rintro e w101 ⟨v379, rfl, ho0, hb⟩; refine ⟨_, rfl, ?_⟩; have HO380 := Aside0.mk (Kd.R_lower (Kd.R_newB ho0 (g := ab) (o := .cells #[.int .i64 ac, .int .i64 ad] 23 (0, 0)) (by (with_reducible repeat (first | refine blk_drewN ?_ _ | refine blk_drew ?_ | refine blk_alloc ?_ _)); exact aa.out)) (below_size (by repeat (first | (with_reducible first | exact HB.out | apply below_alloc | apply pw_below_drewN | apply below_drew1) | exact HB.out)))); replace aa := Aside0.mk (k3d2b.q aa.out hb rfl); replace HB := Aside0.mk (k3d2b.z HB.out hb rfl rfl rfl rfl); (try clear hb); (try clear ah); (try clear hk); (try clear hi); (try clear ho0); obtain ⟨Ao102, co102, eo102⟩ := Kd.R_slice HO380.out; subst eo102))
      go_ret
      exact ⟨by first | rfl | (simp [errW_none, errW_some] <;> rfl) | (simp [*, errW_none, errW_some] <;> rfl), by repeat (first | (with_reducible first | exact HB.out | apply below_alloc | apply pw_below_drewN | apply below_drew1) | exact HB.out)⟩

end Go.Proofs.Ytikjfonedddlpaa.P

/- Printed by this session's own program (wip/tools/pr.py) out of the translation: functions of the program as plain Lean functions, and that the program's calls come to what these say. -/
import Derived.Test.YtndcjncamdhbfaaPx0
import Derived.Test.YtndcjncamdhbfaaPx7
import Derived.Test.YtndcjncamdhbfaaPx9
import Derived.Test.YtndcjncamdhbfaaPx10
import Derived.Test.YtndcjncamdhbfaaPx15
import Derived.Test.YtndcjncamdhbfaaPx16
namespace Go.Proofs.Ytndcjncamdhbfaa.P
open Go.RowKit Go.Proofs.YtndcjncamdhbfaaW.PrintWords Go.Proofs.YtndcjncamdhbfaaW.PrintLast Go.Proofs.YtndcjncamdhbfaaW.PrintMore
attribute [local go_sem] max2_int min2_int max_two min_two max_three min_three max_four min_four   -- for this text's walks alone
set_option linter.unusedVariables false
set_option linter.unusedSimpArgs false

/-! ### whirligiglaw02_PlistIdle: function 6 -/
mutual
def whirligiglaw02_PlistIdle.j0 : Nat → List (S26) → Int → Int → Bool → Int → Bool → Option (Bool)
  | 0, _, _, _, _, _, _ => none
  | k + 1, x0, x1, x2, x7, x8, x41 => if x41 = true then (if x7 = true then (some false) else (if x8 = 7 then ((whirligiglaw02_lives.f k).bind fun t284 => (some t284)) else (some false))) else (whirligiglaw02_PlistIdle.l0 k x0 x1 x2 x7 x8 false 0)
def whirligiglaw02_PlistIdle.l0 : Nat → List (S26) → Int → Int → Bool → Int → Bool → Int → Option (Bool)
  | 0, _, _, _, _, _, _, _ => none
  | k + 1, x0, x1, x2, x7, x8, x9, x10 => if x10 ≤ 32 then (whirligiglaw02_PlistIdle.l1 k x0 x1 x2 x7 x8 x9 x10 0) else (if x8 = 0 then (if (x7 == (!x9)) = true then ((whirligiglaw02_lives.f k).bind fun t285 => (some t285)) else (some false)) else (some false))
def whirligiglaw02_PlistIdle.l1 : Nat → List (S26) → Int → Int → Bool → Int → Bool → Int → Int → Option (Bool)
  | 0, _, _, _, _, _, _, _, _ => none
  | k + 1, x0, x1, x2, x7, x8, x9, x10, x11 => if x11 < (x0.length : Int) then (if 0 ≤ x11 then ((whirligigref01_Edges.f k (([(⟨(rd_T26 x0 x11).f0.f0, (rd_T26 x0 x11).f0.f1⟩ : S24)] : List (S24)))).bind fun t290 => (whirligiglaw02_PlistIdle.l2 k x0 x1 x2 x7 x8 x9 x10 x11 t290 0)) else (none)) else (if x7 = true then ((whirligigref02_At.f k x2 x10).bind fun bt297 => ((whirligigref02_First.f k x0 bt297.1 bt297.2).bind fun t299 => (if t299 = x1 then (some false) else (whirligiglaw02_PlistIdle.l0 k x0 x1 x2 x7 x8 x9 (wrap64 (x10 + 1)))))) else (whirligiglaw02_PlistIdle.l0 k x0 x1 x2 x7 x8 x9 (wrap64 (x10 + 1))))
def whirligiglaw02_PlistIdle.l2 : Nat → List (S26) → Int → Int → Bool → Int → Bool → Int → Int → List Int → Int → Option (Bool)
  | 0, _, _, _, _, _, _, _, _, _, _ => none
  | k + 1, x0, x1, x2, x7, x8, x9, x10, x11, x12, x13 => if x13 < (x12.length : Int) then (if x9 = true then (whirligiglaw02_PlistIdle.l2 k x0 x1 x2 x7 x8 true x10 x11 x12 (wrap64 (x13 + 1))) else (if 0 ≤ x13 then ((whirligigref02_At.f k (rd x12 x13) x10).bind fun bt294 => ((whirligigref02_First.f k x0 bt294.1 bt294.2).bind fun t296 => (whirligiglaw02_PlistIdle.l2 k x0 x1 x2 x7 x8 (t296 == x1) x10 x11 x12 (wrap64 (x13 + 1))))) else (none))) else (whirligiglaw02_PlistIdle.l1 k x0 x1 x2 x7 x8 x9 x10 (wrap64 (x11 + 1)))
end
def whirligiglaw02_PlistIdle.f (k : Nat) (l0 : List (S26)) (a1 : Int) (a2 : Int) : Option (Bool) := (plist_Idle.f k l0 a1).bind fun bt279 => ((whirligigref02_Why.f k l0).bind fun t281 => (if t281 = 0 then (if a1 < 0 then (whirligiglaw02_PlistIdle.j0 k l0 a1 a2 bt279.1 bt279.2 true) else (whirligiglaw02_PlistIdle.j0 k l0 a1 a2 bt279.1 bt279.2 (decide (a1 ≥ (l0.length : Int))))) else (if bt279.1 = true then (some false) else ((whirligigref02_Why.f k l0).bind fun t282 => (if bt279.2 = t282 then ((whirligiglaw02_lives.f k).bind fun t283 => (some t283)) else (some false))))))
theorem whirligiglaw02_PlistIdle.mono_l : ∀ k, (∀ y0 y1 y2 y3 y4 y5, LeO (whirligiglaw02_PlistIdle.j0 k y0 y1 y2 y3 y4 y5) (whirligiglaw02_PlistIdle.j0 (k + 1) y0 y1 y2 y3 y4 y5)) ∧ (∀ y0 y1 y2 y3 y4 y5 y6, LeO (whirligiglaw02_PlistIdle.l0 k y0 y1 y2 y3 y4 y5 y6) (whirligiglaw02_PlistIdle.l0 (k + 1) y0 y1 y2 y3 y4 y5 y6)) ∧ (∀ y0 y1 y2 y3 y4 y5 y6 y7, LeO (whirligiglaw02_PlistIdle.l1 k y0 y1 y2 y3 y4 y5 y6 y7) (whirligiglaw02_PlistIdle.l1 (k + 1) y0 y1 y2 y3 y4 y5 y6 y7)) ∧ (∀ y0 y1 y2 y3 y4 y5 y6 y7 y8 y9, LeO (whirligiglaw02_PlistIdle.l2 k y0 y1 y2 y3 y4 y5 y6 y7 y8 y9) (whirligiglaw02_PlistIdle.l2 (k + 1) y0 y1 y2 y3 y4 y5 y6 y7 y8 y9))
  | 0 => ⟨fun _ _ _ _ _ _ r h => by simp [whirligiglaw02_PlistIdle.j0] at h, fun _ _ _ _ _ _ _ r h => by simp [whirligiglaw02_PlistIdle.l0] at h, fun _ _ _ _ _ _ _ _ r h => by simp [whirligiglaw02_PlistIdle.l1] at h, fun _ _ _ _ _ _ _ _ _ _ r h => by simp [whirligiglaw02_PlistIdle.l2] at h⟩
  | k + 1 => by
    obtain ⟨ih0, ih1, ih2, ih3⟩ := whirligiglaw02_PlistIdle.mono_l k
    refine ⟨?_, ?_, ?_, ?_⟩
    · intro y0 y1 y2 y3 y4 y5
      unfold whirligiglaw02_PlistIdle.j0
      repeat' first
      | (with_reducible exact ih0 _ _ _ _ _ _)
      | (with_reducible exact ih1 _ _ _ _ _ _ _)
      | (with_reducible exact ih2 _ _ _ _ _ _ _ _)
      | (with_reducible exact ih3 _ _ _ _ _ _ _ _ _ _)
      | (with_reducible exact plist_Idle.mono _ _ _)
      | (with_reducible exact whirligiglaw02_lives.mono _)
      | (with_reducible exact whirligigref01_Edges.mono _ _)
      | (with_reducible exact whirligigref02_At.mono _ _ _)
      | (with_reducible exact whirligigref02_First.mono _ _ _ _)
      | (with_reducible exact whirligigref02_Why.mono _ _)
      | (with_reducible exact LeO.refl _)
      | (with_reducible exact LeO.none _)
      | (with_reducible refine LeO.ite ?_ ?_)
      | (with_reducible refine LeO.bind ?_ (fun _ => ?_))
      | exact ih0 _ _ _ _ _ _
      | exact ih1 _ _ _ _ _ _ _
      | exact ih2 _ _ _ _ _ _ _ _
      | exact ih3 _ _ _ _ _ _ _ _ _ _
      | exact plist_Idle.mono _ _ _
      | exact whirligiglaw02_lives.mono _
      | exact whirligigref01_Edges.mono _ _
      | exact whirligigref02_At.mono _ _ _
      | exact whirligigref02_First.mono _ _ _ _
      | exact whirligigref02_Why.mono _ _
      | exact LeO.none _
      | refine LeO.ite ?_ ?_
      | refine LeO.bind ?_ (fun _ => ?_)
    · intro y0 y1 y2 y3 y4 y5 y6
      unfold whirligiglaw02_PlistIdle.l0
      repeat' first
      | (with_reducible exact ih0 _ _ _ _ _ _)
      | (with_reducible exact ih1 _ _ _ _ _ _ _)
      | (with_reducible exact ih2 _ _ _ _ _ _ _ _)
      | (with_reducible exact ih3 _ _ _ _ _ _ _ _ _ _)
      | (with_reducible exact plist_Idle.mono _ _ _)
      | (with_reducible exact whirligiglaw02_lives.mono _)
      | (with_reducible exact whirligigref01_Edges.mono _ _)
      | (with_reducible exact whirligigref02_At.mono _ _ _)
      | (with_reducible exact whirligigref02_First.mono _ _ _ _)
      | (with_reducible exact whirligigref02_Why.mono _ _)
      | (with_reducible exact LeO.refl _)
      | (with_reducible exact LeO.none _)
      | (with_reducible refine LeO.ite ?_ ?_)
      | (with_reducible refine LeO.bind ?_ (fun _ => ?_))
      | exact ih0 _ _ _ _ _ _
      | exact ih1 _ _ _ _ _ _ _
      | exact ih2 _ _ _ _ _ _ _ _
      | exact ih3 _ _ _ _ _ _ _ _ _ _
      | exact plist_Idle.mono _ _ _
      | exact whirligiglaw02_lives.mono _
      | exact whirligigref01_Edges.mono _ _
      | exact whirligigref02_At.mono _ _ _
      | exact whirligigref02_First.mono _ _ _ _
      | exact whirligigref02_Why.mono _ _
      | exact LeO.none _
      | refine LeO.ite ?_ ?_
      | refine LeO.bind ?_ (fun _ => ?_)
    · intro y0 y1 y2 y3 y4 y5 y6 y7
      unfold whirligiglaw02_PlistIdle.l1
      repeat' first
      | (with_reducible exact ih0 _ _ _ _ _ _)
      | (with_reducible exact ih1 _ _ _ _ _ _ _)
      | (with_reducible exact ih2 _ _ _ _ _ _ _ _)
      | (with_reducible exact ih3 _ _ _ _ _ _ _ _ _ _)
      | (with_reducible exact plist_Idle.mono _ _ _)
      | (with_reducible exact whirligiglaw02_lives.mono _)
      | (with_reducible exact whirligigref01_Edges.mono _ _)
      | (with_reducible exact whirligigref02_At.mono _ _ _)
      | (with_reducible exact whirligigref02_First.mono _ _ _ _)
      | (with_reducible exact whirligigref02_Why.mono _ _)
      | (with_reducible exact LeO.refl _)
      | (with_reducible exact LeO.none _)
      | (with_reducible refine LeO.ite ?_ ?_)
      | (with_reducible refine LeO.bind ?_ (fun _ => ?_))
      | exact ih0 _ _ _ _ _ _
      | exact ih1 _ _ _ _ _ _ _
      | exact ih2 _ _ _ _ _ _ _ _
      | exact ih3 _ _ _ _ _ _ _ _ _ _
      | exact plist_Idle.mono _ _ _
      | exact whirligiglaw02_lives.mono _
      | exact whirligigref01_Edges.mono _ _
      | exact whirligigref02_At.mono _ _ _
      | exact whirligigref02_First.mono _ _ _ _
      | exact whirligigref02_Why.mono _ _
      | exact LeO.none _
      | refine LeO.ite ?_ ?_
      | refine LeO.bind ?_ (fun _ => ?_)
    · intro y0 y1 y2 y3 y4 y5 y6 y7 y8 y9
      unfold whirligiglaw02_PlistIdle.l2
      repeat' first
      | (with_reducible exact ih0 _ _ _ _ _ _)
      | (with_reducible exact ih1 _ _ _ _ _ _ _)
      | (with_reducible exact ih2 _ _ _ _ _ _ _ _)
      | (with_reducible exact ih3 _ _ _ _ _ _ _ _ _ _)
      | (with_reducible exact plist_Idle.mono _ _ _)
      | (with_reducible exact whirligiglaw02_lives.mono _)
      | (with_reducible exact whirligigref01_Edges.mono _ _)
      | (with_reducible exact whirligigref02_At.mono _ _ _)
      | (with_reducible exact whirligigref02_First.mono _ _ _ _)
      | (with_reducible exact whirligigref02_Why.mono _ _)
      | (with_reducible exact LeO.refl _)
      | (with_reducible exact LeO.none _)
      | (with_reducible refine LeO.ite ?_ ?_)
      | (with_reducible refine LeO.bind ?_ (fun _ => ?_))
      | exact ih0 _ _ _ _ _ _
      | exact ih1 _ _ _ _ _ _ _
      | exact ih2 _ _ _ _ _ _ _ _
      | exact ih3 _ _ _ _ _ _ _ _ _ _
      | exact plist_Idle.mono _ _ _
      | exact whirligiglaw02_lives.mono _
      | exact whirligigref01_Edges.mono _ _
      | exact whirligigref02_At.mono _ _ _
      | exact whirligigref02_First.mono _ _ _ _
      | exact whirligigref02_Why.mono _ _
      | exact LeO.none _
      | refine LeO.ite ?_ ?_
      | refine LeO.bind ?_ (fun _ => ?_)
theorem whirligiglaw02_PlistIdle.mono : ∀ a0 a1 a2 k, LeO (whirligiglaw02_PlistIdle.f k a0 a1 a2) (whirligiglaw02_PlistIdle.f (k + 1) a0 a1 a2) := by
  intro a0 a1 a2 k
  obtain ⟨ih0, ih1, ih2, ih3⟩ := whirligiglaw02_PlistIdle.mono_l k
  unfold whirligiglaw02_PlistIdle.f
  repeat' first
      | (with_reducible exact ih0 _ _ _ _ _ _)
      | (with_reducible exact ih1 _ _ _ _ _ _ _)
      | (with_reducible exact ih2 _ _ _ _ _ _ _ _)
      | (with_reducible exact ih3 _ _ _ _ _ _ _ _ _ _)
      | (with_reducible exact plist_Idle.mono _ _ _)
      | (with_reducible exact whirligiglaw02_lives.mono _)
      | (with_reducible exact whirligigref01_Edges.mono _ _)
      | (with_reducible exact whirligigref02_At.mono _ _ _)
      | (with_reducible exact whirligigref02_First.mono _ _ _ _)
      | (with_reducible exact whirligigref02_Why.mono _ _)
      | (with_reducible exact LeO.refl _)
      | (with_reducible exact LeO.none _)
      | (with_reducible refine LeO.ite ?_ ?_)
      | (with_reducible refine LeO.bind ?_ (fun _ => ?_))
      | exact ih0 _ _ _ _ _ _
      | exact ih1 _ _ _ _ _ _ _
      | exact ih2 _ _ _ _ _ _ _ _
      | exact ih3 _ _ _ _ _ _ _ _ _ _
      | exact plist_Idle.mono _ _ _
      | exact whirligiglaw02_lives.mono _
      | exact whirligigref01_Edges.mono _ _
      | exact whirligigref02_At.mono _ _ _
      | exact whirligigref02_First.mono _ _ _ _
      | exact whirligigref02_Why.mono _ _
      | exact LeO.none _
      | refine LeO.ite ?_ ?_
      | refine LeO.bind ?_ (fun _ => ?_)
theorem k9935.q {w W W' : World} {g : Nat} {o : Obj} (h : w.heap[g]? = some o) (hb : Below W.heap.size W W') (e : W.heap = w.heap) : W'.heap[g]? = some o := blk_below (e ▸ h) hb
theorem k9935.z {w0 w W W' : World} (h : Below w0.heap.size w0 w) (hb : Below W.heap.size W W') (e : W.heap = w.heap) (e1 : W.os = w.os) (e2 : W.tape = w.tape) (e3 : W.output = w.output) : Below w0.heap.size w0 W' := below_step ⟨e1.trans h.os, e2.trans h.tape, e3.trans h.output, e ▸ h.size, fun k hk => by rw [e]; exact h.block k hk⟩ hb
set_option maxHeartbeats 8000000 in
set_option maxRecDepth 100000 in
theorem whirligiglaw02_PlistIdle.calls (k : Nat) (A0 : Option Addr) (c0 : Nat) (l0 : List (S26)) (a1 : Int) (a2 : Int) (r : Bool) (w : World) (hr0 : Kd.C k26 w A0 l0.length l0) (hc0 : l0.length ≤ c0) (h : whirligiglaw02_PlistIdle.f k l0 a1 a2 = some r) :
  Calls Try.prog 6 #[.slice A0 l0.length c0, .int .i64 a1, .int .u32 a2] w fun e w' => e = .returned (.bool r) ∧ Below w.heap.size w w' := by
 have hu24 := Try.underlying24
 have ab := Aside0.mk hr0
 have ac := Aside0.mk hc0
 clear hr0 hc0
 have HB := Aside0.mk (Below.refl w.heap.size w)
 have H := h
 unfold whirligiglaw02_PlistIdle.f at H
 clear h
 replace H := Option.bind_eq_some_iff.mp H
 obtain ⟨⟨t279, t280⟩, A40, H⟩ := H
 (try dsimp only at H)
 have A4 := Aside0.mk A40
 clear A40
 replace H := Option.bind_eq_some_iff.mp H
 obtain ⟨t281, A50, H⟩ := H
 (try dsimp only at H)
 have A5 := Aside0.mk A50
 clear A50
 by_cases c6 : t281 = 0
 ·rw [if_pos c6] at H
  have c6b0 : (t281 == 0) = true := beq_iff_eq.mpr c6
  have c6b1 : (t281 != 0) = false := bne_eq_false_iff_eq.mpr c6
  clear c6
  have HC7 := Aside0.mk H
  clear H
  go_enter Try.func6, Try.ntmps6
  go_upto_region 4 with (first | ((with_reducible refine gate_callee (f := 20) rfl ?_); refine goesL_ (some 17) rfl rfl Try.func20 (by kernel_rfl) rfl #[.slice A0 l0.length c0, .int .i64 a1] rfl (by (try simp only [List.map_toArray, List.map_cons, List.map_nil]); first | done | rfl) ?_; (with_reducible refine (plist_Idle.calls k _ _ l0 a1 t279 t280 _ ?side1 ?side2 A4.out).mono ?_); (case side1 => repeat (first | exact ab.out | (with_reducible refine Kd.C_alloc ?_ _) | (with_reducible refine Kd.C_drewN ?_ _) | (with_reducible refine Kd.C_drew ?_))); (case side2 => exact ac.out); rintro e w8 ⟨rfl, hb⟩; refine ⟨_, rfl, ?_⟩; replace HB := Aside0.mk (k9935.z HB.out hb rfl rfl rfl rfl); (try clear hb); (try clear aa); (try clear hk); (try clear hi)) | ((with_reducible refine gate_callee (f := 16) rfl ?_); refine goesL_ (some 21) rfl rfl Try.func16 (by kernel_rfl) rfl #[.slice A0 l0.length c0] rfl (by (try simp only [List.map_toArray, List.map_cons, List.map_nil]); first | done | rfl) ?_; (with_reducible refine (whirligigref02_Why.calls k _ _ l0 t281 _ ?side1 ?side2 A5.out).mono ?_); (case side1 => repeat (first | exact (Kd.C_below ab.out HB.out) | (with_reducible refine Kd.C_alloc ?_ _) | (with_reducible refine Kd.C_drewN ?_ _) | (with_reducible refine Kd.C_drew ?_))); (case side2 => exact ac.out); rintro e w9 ⟨rfl, hb⟩; refine ⟨_, rfl, ?_⟩; replace HB := Aside0.mk (k9935.z HB.out hb rfl rfl rfl rfl); (try clear hb); (try clear aa); (try clear hk); (try clear hi)))
  (try simp only [Act.put, List.setIfInBounds_toArray, List.set_cons_zero, List.set_cons_succ])
  go_cut [41] (fun v41 wc => ∃ (kq : Nat) (x41_6 : Bool), v41 = .bool x41_6 ∧ Aside0 (whirligiglaw02_PlistIdle.j0 kq l0 a1 a2 t279 t280 x41_6 = some r) ∧ Aside0 (kq ≤ k) ∧ Aside0 (Below w.heap.size w wc))
  case first =>
   have H := HC7.out
   clear HC7
   by_cases ae : a1 < 0
   ·rw [if_pos ae] at H
    have c10b0 : decide (a1 < 0) = true := decide_eq_true ae
    clear ae
    (first | rw [c10b0] | (simp only [i64_w]; rw [c10b0]) | skip)
    have H' := Aside0.mk H
    clear H
    go_wp2
    go_meet
    case rel => exact ⟨_, (true), (by first | rfl | (simp; done) | (simp [*]; done)), H', ⟨by first | omega | exact Nat.le_refl _⟩, ⟨by repeat (first | (with_reducible first | exact HB.out | apply below_alloc | apply pw_below_drewN | apply below_drew1) | exact HB.out)⟩⟩
   ·rw [if_neg ae] at H
    have c10b0 : decide (a1 < 0) = false := decide_eq_false ae
    clear ae
    (first | rw [c10b0] | (simp only [i64_w]; rw [c10b0]) | skip)
    have H' := Aside0.mk H
    clear H
    go_wp2
    go_meet
    case rel => exact ⟨_, (decide (a1 ≥ (l0.length : Int))), (by first | rfl | (simp; done) | (simp [*]; done)), H', ⟨by first | omega | exact Nat.le_refl _⟩, ⟨by repeat (first | (with_reducible first | exact HB.out | apply below_alloc | apply pw_below_drewN | apply below_drew1) | exact HB.out)⟩⟩
  case rest =>
   clear HC7
   try clear c1
   try clear c2
   try clear p2
   try clear c6
   try clear c6b0
   try clear c6b1
   try clear ae
   try clear c10b0
   obtain ⟨kq, x41_6, rfl, HA, HJ6, HB⟩ := hcut
   cases kq with
   | zero => exact absurd HA.out (by simp [whirligiglaw02_PlistIdle.j0])
   | succ kj6 =>
    have H := HA.out
    clear HA
    simp only [whirligiglaw02_PlistIdle.j0] at H
    by_cases c11 : x41_6 = true
    ·subst c11
     have H1 := H
     rw [if_pos rfl] at H1
     clear H
     have H := H1
     clear H1
     by_cases c12 : t279 = true
     ·subst c12
      have H1 : (some false) = some r := by rw [if_pos rfl] at H; exact H
      clear H
      have H := H1
      clear H1
      obtain rfl := Option.some.inj H
      go_wp2
      go_ret
      exact ⟨by first | rfl | (simp [errW_none, errW_some] <;> rfl) | (simp [*, errW_none, errW_some] <;> rfl), by repeat (first | (with_reducible first | exact HB.out | apply below_alloc | apply pw_below_drewN | apply below_drew1) | exact HB.out)⟩
     ·replace c12 := Bool.eq_false_iff.mpr c12
      subst c12
      have H1 : (if t280 = 7 then ((whirligiglaw02_lives.f kj6).bind fun t284 => (some t284)) else (some false)) = some r := by rw [if_neg (show ¬ (false = true) by decide)] at H; exact H
      clear H
      have H := H1
      clear H1
      by_cases af : t280 = 7
      ·rw [if_pos af] at H
       have c13b0 : (t280 == 7) = true := beq_iff_eq.mpr af
       have c13b1 : (t280 != 7) = false := bne_eq_false_iff_eq.mpr af
       clear af
       replace H := Option.bind_eq_some_iff.mp H
       obtain ⟨t284, A140, H⟩ := H
       replace H : (some t284) = some r := H
       have A14 := Aside0.mk A140
       clear A140
       obtain rfl := Option.some.inj H
       go_wp2_with (first | (go_at_call 12; (with_reducible refine (whirligiglaw02_lives.calls kj6  t284 _ A14.out).mono ?_); rintro e w15 ⟨rfl, hb⟩; replace HB := Aside0.mk (k9935.z HB.out hb rfl rfl rfl rfl); (try clear hb); (try clear aa); (try clear hk); (try clear hi)))
       go_ret
       exact ⟨by first | rfl | (simp [errW_none, errW_some] <;> rfl) | (simp [*, errW_none, errW_some] <;> rfl), by repeat (first | (with_reducible first | exact HB.out | apply below_alloc | apply pw_below_drewN | apply below_drew1) | exact HB.out)⟩
      ·rw [if_neg af] at H
       have c13b0 : (t280 == 7) = false := beq_eq_false_iff_ne.mpr af
       have c13b1 : (t280 != 7) = true := bne_iff_ne.mpr af
       obtain rfl := Option.some.inj H
       go_wp2
       go_ret
       exact ⟨by first | rfl | (simp [errW_none, errW_some] <;> rfl) | (simp [*, errW_none, errW_some] <;> rfl), by repeat (first | (with_reducible first | exact HB.out | apply below_alloc | apply pw_below_drewN | apply below_drew1) | exact HB.out)⟩
    ·replace c11 := Bool.eq_false_iff.mpr c11
     subst c11
     have H1 : (whirligiglaw02_PlistIdle.l0 kj6 l0 a1 a2 t279 t280 false 0) = some r := by rw [if_neg (show ¬ (false = true) by decide)] at H; exact H
     clear H
     have H := H1
     clear H1
     have H' := Aside0.mk H
     clear H
     go_wp2
     go_loopg [9, 10] kj6 (fun kq v9 v10 w' => ∃ (x9_2 : Bool) (x10_2 : Int), v9 = .bool x9_2 ∧ v10 = .int .i64 x10_2 ∧ Aside0 (whirligiglaw02_PlistIdle.l0 kq l0 a1 a2 t279 t280 x9_2 x10_2 = some r) ∧ Aside0 (kq ≤ kj6) ∧ Aside0 (Below w.heap.size w w'))
     case atStart => exact ⟨(false), (0), (by first | rfl | (simp; done) | (simp [*]; done)), (by first | rfl | (simp; done) | (simp [*]; done)), H', ⟨Nat.le_refl _⟩, ⟨by repeat (first | (with_reducible first | exact HB.out | apply below_alloc | apply pw_below_drewN | apply below_drew1) | exact HB.out)⟩⟩
     case round =>
      clear H'
      try clear c1
      try clear c2
      try clear p2
      try clear c6
      try clear c6b0
      try clear c6b1
      try clear ae
      try clear c10b0
      try clear c11
      try clear c12
      try clear af
      try clear c13b0
      try clear c13b1
      try clear p2
      obtain ⟨x9_2, x10_2, rfl, rfl, HA, HK2, HB⟩ := hrel
      cases gk with
      | zero => exact absurd HA.out (by simp [whirligiglaw02_PlistIdle.l0])
      | succ k2 =>
       have H := HA.out
       clear HA
       simp only [whirligiglaw02_PlistIdle.l0] at H
       by_cases ag : x10_2 ≤ 32
       ·rw [if_pos ag] at H
        have c16b0 : decide (x10_2 ≤ 32) = true := decide_eq_true ag
        clear ag
        have H' := Aside0.mk H
        clear H
        go_wp2
        go_loopg [9, 11] k2 (fun kq v9 v11 w' => ∃ (x9_3 : Bool) (x11_3 : Int), v9 = .bool x9_3 ∧ v11 = .int .i64 x11_3 ∧ Aside0 (whirligiglaw02_PlistIdle.l1 kq l0 a1 a2 t279 t280 x9_3 x10_2 x11_3 = some r) ∧ Aside0 (kq ≤ k2) ∧ Aside0 (Below w.heap.size w w'))
        case atStart => exact ⟨(x9_2), (0), (by first | rfl | (simp; done) | (simp [*]; done)), (by first | rfl | (simp; done) | (simp [*]; done)), H', ⟨Nat.le_refl _⟩, ⟨by repeat (first | (with_reducible first | exact HB.out | apply below_alloc | apply pw_below_drewN | apply below_drew1) | exact HB.out)⟩⟩
        case round =>
         clear H'
         try clear c1
         try clear c2
         try clear p2
         try clear c6
         try clear c6b0
         try clear c6b1
         try clear ae
         try clear c10b0
         try clear c11
         try clear c12
         try clear af
         try clear c13b0
         try clear c13b1
         try clear ag
         try clear c16b0
         try clear p2
         obtain ⟨x9_3, x11_3, rfl, rfl, HA, HK3, HB⟩ := hrel
         cases gk with
         | zero => exact absurd HA.out (by simp [whirligiglaw02_PlistIdle.l1])
         | succ k3 =>
          have H := HA.out
          clear HA
          simp only [whirligiglaw02_PlistIdle.l1] at H
          by_cases c17 : x11_3 < (l0.length : Int)
          ·rw [if_pos c17] at H
           have c17b0 : decide (x11_3 < (l0.length : Int)) = true := decide_eq_true c17
           clear c17
           by_cases c18 : 0 ≤ x11_3
           ·rw [if_pos c18] at H
            have c18b0 : decide (0 ≤ x11_3) = true := decide_eq_true c18
            clear c18
            obtain ⟨y287, hy287⟩ : ∃ y_ : List (S24), y_ = (([(⟨(rd_T26 l0 x11_3).f0.f0, (rd_T26 l0 x11_3).f0.f1⟩ : S24)] : List (S24))) := ⟨_, rfl⟩
            replace H : ((whirligigref01_Edges.f k3 y287).bind fun t290 => (whirligiglaw02_PlistIdle.l2 k3 l0 a1 a2 t279 t280 x9_3 x10_2 x11_3 t290 0)) = some r := by first | (rw [hy287]; with_reducible exact H) | (have H2_ := (Option.bind_some _ _).symm.trans H; rw [hy287]; with_reducible exact H2_) | (have H2_ := (Option.bind_some _ _).symm.trans H; with_reducible exact H2_) | with_reducible exact H | (rw [hy287]; exact H) | exact H
            have Ny287 := Aside0.mk hy287
            clear hy287
            replace H := Option.bind_eq_some_iff.mp H
            obtain ⟨t290, A190, H⟩ := H
            replace H : (whirligiglaw02_PlistIdle.l2 k3 l0 a1 a2 t279 t280 x9_3 x10_2 x11_3 t290 0) = some r := H
            have A19 := Aside0.mk A190
            clear A190
            have H' := Aside0.mk H
            clear H
            have p286 : 0 ≤ (x11_3 : Int) := of_decide_eq_true (by first | (with_reducible assumption) | assumption)
            have q286 : x11_3 < (l0.length : Int) := of_decide_eq_true (by first | (with_reducible assumption) | assumption)
            obtain ⟨ad286, e286, hx286_0, hx286_1, hx286_2, hx286_3, hx286_4⟩ := at_T26 ab.out x11_3 p286 q286
            (try (injection e286 with e286; replace e286 := e286.symm; subst e286; have e286 : True := trivial))
            cases e286
            replace hx286_0 := (HB.out.cell (World.block_lt_of_cell? w _ hx286_0)).trans hx286_0
            replace hx286_1 := (HB.out.cell (World.block_lt_of_cell? w _ hx286_1)).trans hx286_1
            replace hx286_2 := (HB.out.cell (World.block_lt_of_cell? w _ hx286_2)).trans hx286_2
            replace hx286_3 := (HB.out.cell (World.block_lt_of_cell? w _ hx286_3)).trans hx286_3
            replace hx286_4 := (HB.out.cell (World.block_lt_of_cell? w _ hx286_4)).trans hx286_4
            replace p286 := eq_true p286
            replace q286 := eq_true q286
            go_wp2_with (first | ((with_reducible refine gate_dst (N := 66) rfl ?_); (try (refine gate_guard (by rfl) ?_; dsimp only)); refine Kd.R_lit k24 _ 24 ?hg (N := 66) ?hd (xs := ([(⟨(rd_T26 l0 x11_3).f0.f0, (rd_T26 l0 x11_3).f0.f1⟩ : S24)] : List (S24))) (inner := [.int .u32 ((rd_T26 l0 x11_3).f0.f0), .int .i64 ((rd_T26 l0 x11_3).f0.f1)]) (ok := fun _ => True) (okp := fun _ => True) ?hr ?hp (fun _ hk => hk) trivial (Below.refl _ _) (Nat.le_refl _) (by simp) ?_; (case hd => rfl); (case hg => rfl); (case hr => first | (go_simp; done) | (go_simp; rfl)); (case hp => exact (Reps.c2 (show Kd.M k24 _ _ _ (⟨(rd_T26 l0 x11_3).f0.f0, (rd_T26 l0 x11_3).f0.f1⟩ : S24) [.int .u32 ((rd_T26 l0 x11_3).f0.f0), .int .i64 ((rd_T26 l0 x11_3).f0.f1)] from (k24_mkM _ _ _ (⟨(rd_T26 l0 x11_3).f0.f0, (rd_T26 l0 x11_3).f0.f1⟩ : S24) )) (Reps.none _ _))); intro v288 w20 ho21 hb hg_ hnew_; clear hg_ hnew_; (first | rw [← Ny287.out] at ho21 | (simp only [Int.reduceToNat] at ho21; rw [← Ny287.out] at ho21)); have HO289 := Aside0.mk (Kd.R_lower ho21 (below_size (by repeat (first | (with_reducible first | exact HB.out | apply below_alloc | apply pw_below_drewN | apply below_drew1) | exact HB.out)))); replace HB := Aside0.mk (k9935.z HB.out hb rfl rfl rfl rfl); clear hb ho21; obtain ⟨Ao22, co22, eo22⟩ := Kd.R_slice HO289.out; subst eo22) | ((with_reducible refine gate_callee (f := 21) rfl ?_); refine goesL_ (some 67) rfl rfl Try.func21 (by kernel_rfl) rfl #[.slice Ao22 y287.length co22] rfl (by (try simp only [List.map_toArray, List.map_cons, List.map_nil]); first | done | rfl) ?_; (with_reducible refine (whirligigref01_Edges.calls k3 _ _ y287 t290 _ ?side1 ?side2 A19.out).mono ?_); (case side1 => repeat (first | exact (Kd.R_reads' HO289.out).2.2 | (with_reducible refine Kd.C_alloc ?_ _) | (with_reducible refine Kd.C_drewN ?_ _) | (with_reducible refine Kd.C_drew ?_))); (case side2 => exact (Kd.R_reads' HO289.out).2.1); rintro e w23 ⟨v291, rfl, ho0, hb⟩; refine ⟨_, rfl, ?_⟩; replace HO289 := Aside0.mk (Kd.R_below (by (with_reducible repeat (first | apply Kd.R_alloc | apply Kd.R_drewN | apply Kd.R_drew)); exact HO289.out) hb); have HO292 := Aside0.mk (Kd.R_lower ho0 (below_size (by repeat (first | (with_reducible first | exact HB.out | apply below_alloc | apply pw_below_drewN | apply below_drew1) | exact HB.out)))); replace HB := Aside0.mk (k9935.z HB.out hb rfl rfl rfl rfl); (try clear hb); (try clear aa); (try clear hk); (try clear hi); (try clear ho0)))
            go_loopg [9, 13] k3 (fun kq v9 v13 w' => ∃ (x9_4 : Bool) (x13_4 : Int), v9 = .bool x9_4 ∧ v13 = .int .i64 x13_4 ∧ Aside0 (whirligiglaw02_PlistIdle.l2 kq l0 a1 a2 t279 t280 x9_4 x10_2 x11_3 t290 x13_4 = some r) ∧ Aside0 (kq ≤ k3) ∧ Aside0 (Kd.R (Kd.int .u32) 22 w' w.heap.size (fun _ => True) v291 t290) ∧ Aside0 (Below w.heap.size w w'))
            case atStart => exact ⟨(x9_3), (0), (by first | rfl | (simp; done) | (simp [*]; done)), (by first | rfl | (simp; done) | (simp [*]; done)), H', ⟨Nat.le_refl _⟩, ⟨by (with_reducible repeat (first | apply Kd.R_alloc | apply Kd.R_drewN | apply Kd.R_drew)); exact HO292.out⟩, ⟨by repeat (first | (with_reducible first | exact HB.out | apply below_alloc | apply pw_below_drewN | apply below_drew1) | exact HB.out)⟩⟩
            case round =>
             clear H'
             try clear c1
             try clear c2
             try clear p2
             try clear q2
             try clear hx2
             try clear c6
             try clear c6b0
             try clear c6b1
             try clear ae
             try clear c10b0
             try clear c11
             try clear c12
             try clear af
             try clear c13b0
             try clear c13b1
             try clear ag
             try clear c16b0
             try clear c17
             try clear c17b0
             try clear c18
             try clear c18b0
             try clear c20
             try clear c21
             try clear hx286_0
             try clear hx286_1
             try clear hx286_2
             try clear hx286_3
             try clear hx286_4
             try clear p2
             try clear p286
             try clear q286
             obtain ⟨x9_4, x13_4, rfl, rfl, HA, HK4, HO_12, HB⟩ := hrel
             cases gk with
             | zero => exact absurd HA.out (by simp [whirligiglaw02_PlistIdle.l2])
             | succ k4 =>
              have H := HA.out
              clear HA
              simp only [whirligiglaw02_PlistIdle.l2] at H
              by_cases c24 : x13_4 < (t290.length : Int)
              ·rw [if_pos c24] at H
               have c24b0 : decide (x13_4 < (t290.length : Int)) = true := decide_eq_true c24
               clear c24
               by_cases c25 : x9_4 = true
               ·subst c25
                have H1 : (whirligiglaw02_PlistIdle.l2 k4 l0 a1 a2 t279 t280 true x10_2 x11_3 t290 (wrap64 (x13_4 + 1))) = some r := by rw [if_pos rfl] at H; exact H
                clear H
                have H := H1
                clear H1
                have H' := Aside0.mk H
                clear H
                obtain ⟨Ao26, co26, eo26⟩ := Kd.R_slice HO_12.out
                subst eo26
                go_wp2
                go_roundg k4
                case measure => have := HJ6.out; have := HK2.out; have := HK3.out; have := HK4.out; omega
                case rel => exact ⟨(true), (wrap64 (x13_4 + 1)), (by first | rfl | (simp; done) | (simp [*]; done)), (by first | rfl | (simp; done) | (simp [*]; done)), H', ⟨by have := HJ6.out; have := HK2.out; have := HK3.out; have := HK4.out; omega⟩, ⟨by (with_reducible repeat (first | apply Kd.R_alloc | apply Kd.R_drewN | apply Kd.R_drew)); exact HO_12.out⟩, ⟨by repeat (first | (with_reducible first | exact HB.out | apply below_alloc | apply pw_below_drewN | apply below_drew1) | exact HB.out)⟩⟩
               ·replace c25 := Bool.eq_false_iff.mpr c25
                subst c25
                have H1 := H
                rw [if_neg (show ¬ (false = true) by decide)] at H1
                clear H
                have H := H1
                clear H1
                by_cases c27 : 0 ≤ x13_4
                ·rw [if_pos c27] at H
                 have c27b0 : decide (0 ≤ x13_4) = true := decide_eq_true c27
                 clear c27
                 replace H := Option.bind_eq_some_iff.mp H
                 obtain ⟨⟨t294, t295⟩, A280, H⟩ := H
                 (try dsimp only at H)
                 have A28 := Aside0.mk A280
                 clear A280
                 replace H := Option.bind_eq_some_iff.mp H
                 obtain ⟨t296, A290, H⟩ := H
                 (try dsimp only at H)
                 have A29 := Aside0.mk A290
                 clear A290
                 have H' := Aside0.mk H
                 clear H
                 obtain ⟨Ao30, co30, eo30⟩ := Kd.R_slice HO_12.out
                 subst eo30
                 have p293 : 0 ≤ (x13_4 : Int) := of_decide_eq_true (by first | (with_reducible assumption) | assumption)
                 have q293 : x13_4 < (t290.length : Int) := of_decide_eq_true (by first | (with_reducible assumption) | assumption)
                 obtain ⟨ad293, e293, hx293_0⟩ := Kd.at_int (Kd.R_reads' HO_12.out).2.2 x13_4 p293 q293
                 (try (injection e293 with e293; replace e293 := e293.symm; subst e293; have e293 : True := trivial))
                 cases e293
                 replace p293 := eq_true p293
                 replace q293 := eq_true q293
                 go_wp2_with (first | (go_at_call 23; (with_reducible refine (whirligigref02_At.calls k4 (rd t290 x13_4) x10_2 t294 t295 _ A28.out).mono ?_); rintro e w31 ⟨rfl, hb⟩; replace HO_12 := Aside0.mk (Kd.R_below (by (with_reducible repeat (first | apply Kd.R_alloc | apply Kd.R_drewN | apply Kd.R_drew)); exact HO_12.out) hb); replace HB := Aside0.mk (k9935.z HB.out hb rfl rfl rfl rfl); (try clear hb); (try clear aa); (try clear hk); (try clear hi)) | (go_at_call 22; (with_reducible refine (whirligigref02_First.calls k4 _ _ l0 t294 t295 t296 _ ?side1 ?side2 A29.out).mono ?_); (case side1 => repeat (first | exact (Kd.C_below ab.out HB.out) | (with_reducible refine Kd.C_alloc ?_ _) | (with_reducible refine Kd.C_drewN ?_ _) | (with_reducible refine Kd.C_drew ?_))); (case side2 => exact ac.out); rintro e w32 ⟨rfl, hb⟩; replace HO_12 := Aside0.mk (Kd.R_below (by (with_reducible repeat (first | apply Kd.R_alloc | apply Kd.R_drewN | apply Kd.R_drew)); exact HO_12.out) hb); replace HB := Aside0.mk (k9935.z HB.out hb rfl rfl rfl rfl); (try clear hb); (try clear aa); (try clear hk); (try clear hi)))
                 go_roundg k4
                 case measure => have := HJ6.out; have := HK2.out; have := HK3.out; have := HK4.out; omega
                 case rel => exact ⟨((t296 == a1)), (wrap64 (x13_4 + 1)), (by first | rfl | (simp; done) | (simp [*]; done)), (by first | rfl | (simp; done) | (simp [*]; done)), H', ⟨by have := HJ6.out; have := HK2.out; have := HK3.out; have := HK4.out; omega⟩, ⟨by (with_reducible repeat (first | apply Kd.R_alloc | apply Kd.R_drewN | apply Kd.R_drew)); exact HO_12.out⟩, ⟨by repeat (first | (with_reducible first | exact HB.out | apply below_alloc | apply pw_below_drewN | apply below_drew1) | exact HB.out)⟩⟩
                ·rw [if_neg c27] at H
                 exact absurd H (by simp)
              ·rw [if_neg c24] at H
               have c24b0 : decide (x13_4 < (t290.length : Int)) = false := decide_eq_false c24
               clear c24
               have H' := Aside0.mk H
               clear H
               obtain ⟨Ao33, co33, eo33⟩ := Kd.R_slice HO_12.out
               subst eo33
               go_wp2
               go_roundg k4
               case measure => have := HJ6.out; have := HK2.out; have := HK3.out; have := HK4.out; omega
               case rel => exact ⟨(x9_4), (wrap64 (x11_3 + 1)), (by first | rfl | (simp; done) | (simp [*]; done)), (by first | rfl | (simp; done) | (simp [*]; done)), H', ⟨by have := HJ6.out; have := HK2.out; have := HK3.out; have := HK4.out; omega⟩, ⟨by repeat (first | (with_reducible first | exact HB.out | apply below_alloc | apply pw_below_drewN | apply below_drew1) | exact HB.out)⟩⟩
           ·rw [if_neg c18] at H
            exact absurd H (by simp)
          ·rw [if_neg c17] at H
           have c17b0 : decide (x11_3 < (l0.length : Int)) = false := decide_eq_false c17
           clear c17
           by_cases c34 : t279 = true
           ·subst c34
            have H1 := H
            rw [if_pos rfl] at H1
            clear H
            have H := H1
            clear H1
            replace H := Option.bind_eq_some_iff.mp H
            obtain ⟨⟨t297, t298⟩, A350, H⟩ := H
            (try dsimp only at H)
            have A35 := Aside0.mk A350
            clear A350
            replace H := Option.bind_eq_some_iff.mp H
            obtain ⟨t299, A360, H⟩ := H
            (try dsimp only at H)
            have A36 := Aside0.mk A360
            clear A360
            by_cases c37 : t299 = a1
            ·rw [if_pos c37] at H
             have c37b0 : (t299 == a1) = true := beq_iff_eq.mpr c37
             have c37b1 : (t299 != a1) = false := bne_eq_false_iff_eq.mpr c37
             clear c37
             obtain rfl := Option.some.inj H
             go_wp2_with (first | (go_at_call 23; (with_reducible refine (whirligigref02_At.calls k3 a2 x10_2 t297 t298 _ A35.out).mono ?_); rintro e w38 ⟨rfl, hb⟩; replace HB := Aside0.mk (k9935.z HB.out hb rfl rfl rfl rfl); (try clear hb); (try clear aa); (try clear hk); (try clear hi)) | (go_at_call 22; (with_reducible refine (whirligigref02_First.calls k3 _ _ l0 t297 t298 t299 _ ?side1 ?side2 A36.out).mono ?_); (case side1 => repeat (first | exact (Kd.C_below ab.out HB.out) | (with_reducible refine Kd.C_alloc ?_ _) | (with_reducible refine Kd.C_drewN ?_ _) | (with_reducible refine Kd.C_drew ?_))); (case side2 => exact ac.out); rintro e w39 ⟨rfl, hb⟩; replace HB := Aside0.mk (k9935.z HB.out hb rfl rfl rfl rfl); (try clear hb); (try clear aa); (try clear hk); (try clear hi)))
             go_ret
             exact ⟨by first | rfl | (simp [errW_none, errW_some] <;> rfl) | (simp [*, errW_none, errW_some] <;> rfl), by repeat (first | (with_reducible first | exact HB.out | apply below_alloc | apply pw_below_drewN | apply below_drew1) | exact HB.out)⟩
            ·rw [if_neg c37] at H
             have c37b0 : (t299 == a1) = false := beq_eq_false_iff_ne.mpr c37
             have c37b1 : (t299 != a1) = true := bne_iff_ne.mpr c37
             have H' := Aside0.mk H
             clear H
             go_wp2_with (first | (go_at_call 23; (with_reducible refine (whirligigref02_At.calls k3 a2 x10_2 t297 t298 _ A35.out).mono ?_); rintro e w40 ⟨rfl, hb⟩; replace HB := Aside0.mk (k9935.z HB.out hb rfl rfl rfl rfl); (try clear hb); (try clear aa); (try clear hk); (try clear hi)) | (go_at_call 22; (with_reducible refine (whirligigref02_First.calls k3 _ _ l0 t297 t298 t299 _ ?side1 ?side2 A36.out).mono ?_); (case side1 => repeat (first | exact (Kd.C_below ab.out HB.out) | (with_reducible refine Kd.C_alloc ?_ _) | (with_reducible refine Kd.C_drewN ?_ _) | (with_reducible refine Kd.C_drew ?_))); (case side2 => exact ac.out); rintro e w41 ⟨rfl, hb⟩; replace HB := Aside0.mk (k9935.z HB.out hb rfl rfl rfl rfl); (try clear hb); (try clear aa); (try clear hk); (try clear hi)))
             go_roundg k3
             case measure => have := HJ6.out; have := HK2.out; have := HK3.out; omega
             case rel => exact ⟨(x9_3), (wrap64 (x10_2 + 1)), (by first | rfl | (simp; done) | (simp [*]; done)), (by first | rfl | (simp; done) | (simp [*]; done)), H', ⟨by have := HJ6.out; have := HK2.out; have := HK3.out; omega⟩, ⟨by repeat (first | (with_reducible first | exact HB.out | apply below_alloc | apply pw_below_drewN | apply below_drew1) | exact HB.out)⟩⟩
           ·replace c34 := Bool.eq_false_iff.mpr c34
            subst c34
            have H1 : (whirligiglaw02_PlistIdle.l0 k3 l0 a1 a2 false t280 x9_3 (wrap64 (x10_2 + 1))) = some r := by rw [if_neg (show ¬ (false = true) by decide)] at H; exact H
            clear H
            have H := H1
            clear H1
            have H' := Aside0.mk H
            clear H
            go_wp2
            go_roundg k3
            case measure => have := HJ6.out; have := HK2.out; have := HK3.out; omega
            case rel => exact ⟨(x9_3), (wrap64 (x10_2 + 1)), (by first | rfl | (simp; done) | (simp [*]; done)), (by first | rfl | (simp; done) | (simp [*]; done)), H', ⟨by have := HJ6.out; have := HK2.out; have := HK3.out; omega⟩, ⟨by repeat (first | (with_reducible first | exact HB.out | apply below_alloc | apply pw_below_drewN | apply below_drew1) | exact HB.out)⟩⟩
       ·rw [if_neg ag] at H
        have c16b0 : decide (x10_2 ≤ 32) = false := decide_eq_false ag
        clear ag
        by_cases c42 : t280 = 0
        ·rw [if_pos c42] at H
         have c42b0 : (t280 == 0) = true := beq_iff_eq.mpr c42
         have c42b1 : (t280 != 0) = false := bne_eq_false_iff_eq.mpr c42
         clear c42
         by_cases ad : (t279 == (!x9_2)) = true
         ·rw [if_pos ad] at H
          have c43b0 : (t279 == (!x9_2)) = true := ad
          (try (have c43b1 : decide (t279 = (!x9_2)) = true := by simpa using ad))
          (try (have c43b2 : (t279 == (!x9_2)) = true := by simpa using ad))
          clear ad
          replace H := Option.bind_eq_some_iff.mp H
          obtain ⟨t285, A440, H⟩ := H
          replace H : (some t285) = some r := H
          have A44 := Aside0.mk A440
          clear A440
          obtain rfl := Option.some.inj H
          go_wp2_with (first | (go_at_call 12; (with_reducible refine (whirligiglaw02_lives.calls k2  t285 _ A44.out).mono ?_); rintro e w45 ⟨rfl, hb⟩; replace HB := Aside0.mk (k9935.z HB.out hb rfl rfl rfl rfl); (try clear hb); (try clear aa); (try clear hk); (try clear hi)))
          go_ret
          exact ⟨by first | rfl | (simp [errW_none, errW_some] <;> rfl) | (simp [*, errW_none, errW_some] <;> rfl), by repeat (first | (with_reducible first | exact HB.out | apply below_alloc | apply pw_below_drewN | apply below_drew1) | exact HB.out)⟩
         ·rw [if_neg ad] at H
          have c43b0 : (t279 == (!x9_2)) = false := by simpa using ad
          (try (have c43b1 : decide (t279 = (!x9_2)) = false := by simpa using ad))
          (try (have c43b2 : (t279 == (!x9_2)) = false := by simpa using ad))
          (try (have c43b3 : ¬ (t279 = (!x9_2)) := by simpa using ad))
          clear ad
          obtain rfl := Option.some.inj H
          go_wp2
          go_ret
          exact ⟨by first | rfl | (simp [errW_none, errW_some] <;> rfl) | (simp [*, errW_none, errW_some] <;> rfl), by repeat (first | (with_reducible first | exact HB.out | apply below_alloc | apply pw_below_drewN | apply below_drew1) | exact HB.out)⟩
        ·rw [if_neg c42] at H
         have c42b0 : (t280 == 0) = false := beq_eq_false_iff_ne.mpr c42
         have c42b1 : (t280 != 0) = true := bne_iff_ne.mpr c42
         obtain rfl := Option.some.inj H
         go_wp2
         go_ret
         exact ⟨by first | rfl | (simp [errW_none, errW_some] <;> rfl) | (simp [*, errW_none, errW_some] <;> rfl), by repeat (first | (with_reducible first | exact HB.out | apply below_alloc | apply pw_below_drewN | apply below_drew1) | exact HB.out)⟩
 ·rw [if_neg c6] at H
  have c6b0 : (t281 == 0) = false := beq_eq_false_iff_ne.mpr c6
  have c6b1 : (t281 != 0) = true := bne_iff_ne.mpr c6
  by_cases c46 : t279 = true
  ·subst c46
   have H1 : (some false) = some r := by rw [if_pos rfl] at H; exact H
   clear H
   have H := H1
   clear H1
   obtain rfl := Option.some.inj H
   go_enter Try.func6, Try.ntmps6
   go_wp2_with (first | ((with_reducible refine gate_callee (f := 20) rfl ?_); refine goesL_ (some 17) rfl rfl Try.func20 (by kernel_rfl) rfl #[.slice A0 l0.length c0, .int .i64 a1] rfl (by (try simp only [List.map_toArray, List.map_cons, List.map_nil]); first | done | rfl) ?_; (with_reducible refine (plist_Idle.calls k _ _ l0 a1 true t280 _ ?side1 ?side2 A4.out).mono ?_); (case side1 => repeat (first | exact ab.out | (with_reducible refine Kd.C_alloc ?_ _) | (with_reducible refine Kd.C_drewN ?_ _) | (with_reducible refine Kd.C_drew ?_))); (case side2 => exact ac.out); rintro e w47 ⟨rfl, hb⟩; refine ⟨_, rfl, ?_⟩; replace HB := Aside0.mk (k9935.z HB.out hb rfl rfl rfl rfl); (try clear hb); (try clear aa); (try clear hk); (try clear hi)) | ((with_reducible refine gate_callee (f := 16) rfl ?_); refine goesL_ (some 21) rfl rfl Try.func16 (by kernel_rfl) rfl #[.slice A0 l0.length c0] rfl (by (try simp only [List.map_toArray, List.map_cons, List.map_nil]); first | done | rfl) ?_; (with_reducible refine (whirligigref02_Why.calls k _ _ l0 t281 _ ?side1 ?side2 A5.out).mono ?_); (case side1 => repeat (first | exact (Kd.C_below ab.out HB.out) | (with_reducible refine Kd.C_alloc ?_ _) | (with_reducible refine Kd.C_drewN ?_ _) | (with_reducible refine Kd.C_drew ?_))); (case side2 => exact ac.out); rintro e w48 ⟨rfl, hb⟩; refine ⟨_, rfl, ?_⟩; replace HB := Aside0.mk (k9935.z HB.out hb rfl rfl rfl rfl); (try clear hb); (try clear aa); (try clear hk); (try clear hi)))
   go_ret
   exact ⟨by first | rfl | (simp [errW_none, errW_some] <;> rfl) | (simp [*, errW_none, errW_some] <;> rfl), by repeat (first | (with_reducible first | exact HB.out | apply below_alloc | apply pw_below_drewN | apply below_drew1) | exact HB.out)⟩
  ·replace c46 := Bool.eq_false_iff.mpr c46
   subst c46
   have H1 := H
   rw [if_neg (show ¬ (false = true) by decide)] at H1
   clear H
   have H := H1
   clear H1
   replace H := Option.bind_eq_some_iff.mp H
   obtain ⟨t282, A490, H⟩ := H
   (try dsimp only at H)
   have A49 := Aside0.mk A490
   clear A490
   by_cases c50 : t280 = t282
   ·rw [if_pos c50] at H
    have c50b0 : (t280 == t282) = true := beq_iff_eq.mpr c50
    have c50b1 : (t280 != t282) = false := bne_eq_false_iff_eq.mpr c50
    clear c50
    replace H := Option.bind_eq_some_iff.mp H
    obtain ⟨t283, A510, H⟩ := H
    replace H : (some t283) = some r := H
    have A51 := Aside0.mk A510
    clear A510
    obtain rfl := Option.some.inj H
    go_enter Try.func6, Try.ntmps6
    go_wp2_with (first | ((with_reducible refine gate_callee (f := 20) rfl ?_); refine goesL_ (some 17) rfl rfl Try.func20 (by kernel_rfl) rfl #[.slice A0 l0.length c0, .int .i64 a1] rfl (by (try simp only [List.map_toArray, List.map_cons, List.map_nil]); first | done | rfl) ?_; (with_reducible refine (plist_Idle.calls k _ _ l0 a1 false t280 _ ?side1 ?side2 A4.out).mono ?_); (case side1 => repeat (first | exact ab.out | (with_reducible refine Kd.C_alloc ?_ _) | (with_reducible refine Kd.C_drewN ?_ _) | (with_reducible refine Kd.C_drew ?_))); (case side2 => exact ac.out); rintro e w52 ⟨rfl, hb⟩; refine ⟨_, rfl, ?_⟩; replace HB := Aside0.mk (k9935.z HB.out hb rfl rfl rfl rfl); (try clear hb); (try clear aa); (try clear hk); (try clear hi)) | ((with_reducible refine gate_callee (f := 16) rfl ?_); refine goesL_ (some 21) rfl rfl Try.func16 (by kernel_rfl) rfl #[.slice A0 l0.length c0] rfl (by (try simp only [List.map_toArray, List.map_cons, List.map_nil]); first | done | rfl) ?_; (with_reducible refine (whirligigref02_Why.calls k _ _ l0 t281 _ ?side1 ?side2 A5.out).mono ?_); (case side1 => repeat (first | exact (Kd.C_below ab.out HB.out) | (with_reducible refine Kd.C_alloc ?_ _) | (with_reducible refine Kd.C_drewN ?_ _) | (with_reducible refine Kd.C_drew ?_))); (case side2 => exact ac.out); rintro e w53 ⟨rfl, hb⟩; refine ⟨_, rfl, ?_⟩; replace HB := Aside0.mk (k9935.z HB.out hb rfl rfl rfl rfl); (try clear hb); (try clear aa); (try clear hk); (try clear hi)) | (go_at_call 16; (with_reducible refine (whirligigref02_Why.calls k _ _ l0 t282 _ ?side1 ?side2 A49.out).mono ?_); (case side1 => repeat (first | exact (Kd.C_below ab.out HB.out) | (with_reducible refine Kd.C_alloc ?_ _) | (with_reducible refine Kd.C_drewN ?_ _) | (with_reducible refine Kd.C_drew ?_))); (case side2 => exact ac.out); rintro e w54 ⟨rfl, hb⟩; replace HB := Aside0.mk (k9935.z HB.out hb rfl rfl rfl rfl); (try clear hb); (try clear aa); (try clear hk); (try clear hi)) | (go_at_call 12; (with_reducible refine (whirligiglaw02_lives.calls k  t283 _ A51.out).mono ?_); rintro e w55 ⟨rfl, hb⟩; replace HB := Aside0.mk (k9935.z HB.out hb rfl rfl rfl rfl); (try clear hb); (try clear aa); (try clear hk); (try clear hi)))
    go_ret
    exact ⟨by first | rfl | (simp [errW_none, errW_some] <;> rfl) | (simp [*, errW_none, errW_some] <;> rfl), by repeat (first | (with_reducible first | exact HB.out | apply below_alloc | apply pw_below_drewN | apply below_drew1) | exact HB.out)⟩
   ·rw [if_neg c50] at H
    have c50b0 : (t280 == t282) = false := beq_eq_false_iff_ne.mpr c50
    have c50b1 : (t280 != t282) = true := bne_iff_ne.mpr c50
    obtain rfl := Option.some.inj H
    go_enter Try.func6, Try.ntmps6
    go_wp2_with (first | ((with_reducible refine gate_callee (f := 20) rfl ?_); refine goesL_ (some 17) rfl rfl Try.func20 (by kernel_rfl) rfl #[.slice A0 l0.length c0, .int .i64 a1] rfl (by (try simp only [List.map_toArray, List.map_cons, List.map_nil]); first | done | rfl) ?_; (with_reducible refine (plist_Idle.calls k _ _ l0 a1 false t280 _ ?side1 ?side2 A4.out).mono ?_); (case side1 => repeat (first | exact ab.out | (with_reducible refine Kd.C_alloc ?_ _) | (with_reducible refine Kd.C_drewN ?_ _) | (with_reducible refine Kd.C_drew ?_))); (case side2 => exact ac.out); rintro e w56 ⟨rfl, hb⟩; refine ⟨_, rfl, ?_⟩; replace HB := Aside0.mk (k9935.z HB.out hb rfl rfl rfl rfl); (try clear hb); (try clear aa); (try clear hk); (try clear hi)) | ((with_reducible refine gate_callee (f := 16) rfl ?_); refine goesL_ (some 21) rfl rfl Try.func16 (by kernel_rfl) rfl #[.slice A0 l0.length c0] rfl (by (try simp only [List.map_toArray, List.map_cons, List.map_nil]); first | done | rfl) ?_; (with_reducible refine (whirligigref02_Why.calls k _ _ l0 t281 _ ?side1 ?side2 A5.out).mono ?_); (case side1 => repeat (first | exact (Kd.C_below ab.out HB.out) | (with_reducible refine Kd.C_alloc ?_ _) | (with_reducible refine Kd.C_drewN ?_ _) | (with_reducible refine Kd.C_drew ?_))); (case side2 => exact ac.out); rintro e w57 ⟨rfl, hb⟩; refine ⟨_, rfl, ?_⟩; replace HB := Aside0.mk (k9935.z HB.out hb rfl rfl rfl rfl); (try clear hb); (try clear aa); (try clear hk); (try clear hi)) | (go_at_call 16; (with_reducible refine (whirligigref02_Why.calls k _ _ l0 t282 _ ?side1 ?side2 A49.out).mono ?_); (case side1 => repeat (first | exact (Kd.C_below ab.out HB.out) | (with_reducible refine Kd.C_alloc ?_ _) | (with_reducible refine Kd.C_drewN ?_ _) | (with_reducible refine Kd.C_drew ?_))); (case side2 => exact ac.out); rintro e w58 ⟨rfl, hb⟩; replace HB := Aside0.mk (k9935.z HB.out hb rfl rfl rfl rfl); (try clear hb); (try clear aa); (try clear hk); (try clear hi)))
    go_ret
    exact ⟨by first | rfl | (simp [errW_none, errW_some] <;> rfl) | (simp [*, errW_none, errW_some] <;> rfl), by repeat (first | (with_reducible first | exact HB.out | apply below_alloc | apply pw_below_drewN | apply below_drew1) | exact HB.out)⟩

end Go.Proofs.Ytndcjncamdhbfaa.P

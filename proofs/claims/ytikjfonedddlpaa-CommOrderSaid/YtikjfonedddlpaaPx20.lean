/- Printed by this session's own program (wip/tools/pr.py) out of the translation: functions of the program as plain Lean functions, and that the program's calls come to what these say. -/
import Derived.Test.YtikjfonedddlpaaPx0
import Derived.Test.YtikjfonedddlpaaPx5
import Derived.Test.YtikjfonedddlpaaPx9
import Derived.Test.YtikjfonedddlpaaPx14
import Derived.Test.YtikjfonedddlpaaPx18
namespace Go.Proofs.Ytikjfonedddlpaa.P
open Go.RowKit Go.Proofs.YtikjfonedddlpaaW.PrintWords Go.Proofs.YtikjfonedddlpaaW.PrintLast Go.Proofs.YtikjfonedddlpaaW.PrintMore
attribute [local go_sem] max2_int min2_int max_two min_two max_three min_three max_four min_four   -- for this text's walks alone
set_option linter.unusedVariables false
set_option linter.unusedSimpArgs false

/-! ### whirligiglaw03_CommOrder: function 5 -/
def whirligiglaw03_CommOrder.j0 : Nat → List (S23) → List (S23) → List (S23) → Bool → Option (Bool)
  | 0, _, _, _, _ => none
  | k + 1, x0, x1, x2, x22 => if x22 = true then ((whirligiglaw03_lives.f k).bind fun t299 => (some t299)) else ((comm_Compare.f x0 x1).bind fun t300 => ((comm_Compare.f x1 x2).bind fun t301 => ((comm_Compare.f x0 x2).bind fun t302 => ((comm_Compare.f x1 x0).bind fun t303 => (if t303 = (wrap64 (-t300)) then ((whirligigref03_Same.f k x0 x1).bind fun t304 => (if ((t300 == 0) != t304) = true then (some false) else (if t300 < (-1) then (some false) else (if t300 > 1 then (some false) else (if t300 > 0 then ((whirligiglaw03_lives.f k).bind fun t305 => (some t305)) else (if t301 > 0 then ((whirligiglaw03_lives.f k).bind fun t306 => (some t306)) else (if t302 ≤ 0 then (if t300 = 0 then (if t301 = 0 then ((whirligiglaw03_lives.f k).bind fun t307 => (some t307)) else (if t302 < 0 then ((whirligiglaw03_lives.f k).bind fun t308 => (some t308)) else (some false))) else (if t302 < 0 then ((whirligiglaw03_lives.f k).bind fun t309 => (some t309)) else (some false))) else (some false)))))))) else (some false))))))
def whirligiglaw03_CommOrder.f (k : Nat) (l0 : List (S23)) (l1 : List (S23)) (l2 : List (S23)) : Option (Bool) := (whirligiglaw03_few.f l0).bind fun t296 => (if t296 = true then ((whirligiglaw03_few.f l1).bind fun t297 => (if t297 = true then ((whirligiglaw03_few.f l2).bind fun t298 => (whirligiglaw03_CommOrder.j0 k l0 l1 l2 (!t298))) else (whirligiglaw03_CommOrder.j0 k l0 l1 l2 true))) else (whirligiglaw03_CommOrder.j0 k l0 l1 l2 true))
theorem whirligiglaw03_CommOrder.mono_l : ∀ k, (∀ y0 y1 y2 y3, LeO (whirligiglaw03_CommOrder.j0 k y0 y1 y2 y3) (whirligiglaw03_CommOrder.j0 (k + 1) y0 y1 y2 y3))
  | 0 => fun _ _ _ _ r h => by simp [whirligiglaw03_CommOrder.j0] at h
  | k + 1 => by
    have ih0 := whirligiglaw03_CommOrder.mono_l k
    · intro y0 y1 y2 y3
      unfold whirligiglaw03_CommOrder.j0
      repeat' first
      | (with_reducible exact ih0 _ _ _ _)
      | (with_reducible exact whirligiglaw03_lives.mono _)
      | (with_reducible exact whirligigref03_Same.mono _ _ _)
      | (with_reducible exact LeO.refl _)
      | (with_reducible exact LeO.none _)
      | (with_reducible refine LeO.ite ?_ ?_)
      | (with_reducible refine LeO.bind ?_ (fun _ => ?_))
      | exact ih0 _ _ _ _
      | exact whirligiglaw03_lives.mono _
      | exact whirligigref03_Same.mono _ _ _
      | exact LeO.none _
      | refine LeO.ite ?_ ?_
      | refine LeO.bind ?_ (fun _ => ?_)
theorem whirligiglaw03_CommOrder.mono : ∀ a0 a1 a2 k, LeO (whirligiglaw03_CommOrder.f k a0 a1 a2) (whirligiglaw03_CommOrder.f (k + 1) a0 a1 a2) := by
  intro a0 a1 a2 k
  have ih0 := whirligiglaw03_CommOrder.mono_l k
  unfold whirligiglaw03_CommOrder.f
  repeat' first
      | (with_reducible exact ih0 _ _ _ _)
      | (with_reducible exact whirligiglaw03_lives.mono _)
      | (with_reducible exact whirligigref03_Same.mono _ _ _)
      | (with_reducible exact LeO.refl _)
      | (with_reducible exact LeO.none _)
      | (with_reducible refine LeO.ite ?_ ?_)
      | (with_reducible refine LeO.bind ?_ (fun _ => ?_))
      | exact ih0 _ _ _ _
      | exact whirligiglaw03_lives.mono _
      | exact whirligigref03_Same.mono _ _ _
      | exact LeO.none _
      | refine LeO.ite ?_ ?_
      | refine LeO.bind ?_ (fun _ => ?_)
theorem k211a.q {w W W' : World} {g : Nat} {o : Obj} (h : w.heap[g]? = some o) (hb : Below W.heap.size W W') (e : W.heap = w.heap) : W'.heap[g]? = some o := blk_below (e ▸ h) hb
theorem k211a.z {w0 w W W' : World} (h : Below w0.heap.size w0 w) (hb : Below W.heap.size W W') (e : W.heap = w.heap) (e1 : W.os = w.os) (e2 : W.tape = w.tape) (e3 : W.output = w.output) : Below w0.heap.size w0 W' := below_step ⟨e1.trans h.os, e2.trans h.tape, e3.trans h.output, e ▸ h.size, fun k hk => by rw [e]; exact h.block k hk⟩ hb
set_option maxHeartbeats 8000000 in
set_option maxRecDepth 100000 in
theorem whirligiglaw03_CommOrder.calls (k : Nat) (A0 : Option Addr) (c0 : Nat) (l0 : List (S23)) (A1 : Option Addr) (c1 : Nat) (l1 : List (S23)) (A2 : Option Addr) (c2 : Nat) (l2 : List (S23)) (r : Bool) (w : World) (hr0 : Kd.C k23 w A0 l0.length l0) (hc0 : l0.length ≤ c0) (hr1 : Kd.C k23 w A1 l1.length l1) (hc1 : l1.length ≤ c1) (hr2 : Kd.C k23 w A2 l2.length l2) (hc2 : l2.length ≤ c2) (h : whirligiglaw03_CommOrder.f k l0 l1 l2 = some r) :
  Calls Try.prog 5 #[.slice A0 l0.length c0, .slice A1 l1.length c1, .slice A2 l2.length c2] w fun e w' => e = .returned (.bool r) ∧ Below w.heap.size w w' := by
 have ab := Aside0.mk hr0
 have ac := Aside0.mk hc0
 clear hr0 hc0
 have ad := Aside0.mk hr1
 have ae := Aside0.mk hc1
 clear hr1 hc1
 have af := Aside0.mk hr2
 have ag := Aside0.mk hc2
 clear hr2 hc2
 have HB := Aside0.mk (Below.refl w.heap.size w)
 have H := h
 unfold whirligiglaw03_CommOrder.f at H
 clear h
 have HC4 := Aside0.mk H
 clear H
 go_enter Try.func5, Try.ntmps5
 go_upto_region 1 with (fail)
 go_cut [22] (fun v22 wc => ∃ (kq : Nat) (x22_3 : Bool), v22 = .bool x22_3 ∧ Aside0 (whirligiglaw03_CommOrder.j0 kq l0 l1 l2 x22_3 = some r) ∧ Aside0 (kq ≤ k) ∧ Aside0 (Below w.heap.size w wc))
 case first =>
  have H := HC4.out
  clear HC4
  replace H := Option.bind_eq_some_iff.mp H
  obtain ⟨t296, A50, H⟩ := H
  (try dsimp only at H)
  have A5 := Aside0.mk A50
  clear A50
  by_cases c6 : t296 = true
  ·subst c6
   have H1 := H
   rw [if_pos rfl] at H1
   clear H
   have H := H1
   clear H1
   replace H := Option.bind_eq_some_iff.mp H
   obtain ⟨t297, A70, H⟩ := H
   (try dsimp only at H)
   have A7 := Aside0.mk A70
   clear A70
   by_cases c8 : t297 = true
   ·subst c8
    have H1 : ((whirligiglaw03_few.f l2).bind fun t298 => (whirligiglaw03_CommOrder.j0 k l0 l1 l2 (!t298))) = some r := by rw [if_pos rfl] at H; exact H
    clear H
    have H := H1
    clear H1
    replace H := Option.bind_eq_some_iff.mp H
    obtain ⟨t298, A90, H⟩ := H
    replace H : (whirligiglaw03_CommOrder.j0 k l0 l1 l2 (!t298)) = some r := H
    have A9 := Aside0.mk A90
    clear A90
    have H' := Aside0.mk H
    clear H
    go_wp2_with (first | ((with_reducible refine gate_callee (f := 19) rfl ?_); refine goesL_ (some 11) rfl rfl Try.func19 (by kernel_rfl) rfl #[.slice A0 l0.length c0] rfl (by (try simp only [List.map_toArray, List.map_cons, List.map_nil]); first | done | rfl) ?_; (with_reducible refine (whirligiglaw03_few.calls _ _ l0 true _ ?side1 ?side2 A5.out).mono ?_); (case side1 => repeat (first | exact (Kd.C_below ab.out HB.out) | (with_reducible refine Kd.C_alloc ?_ _) | (with_reducible refine Kd.C_drewN ?_ _) | (with_reducible refine Kd.C_drew ?_))); (case side2 => exact ac.out); rintro e w' ⟨rfl, ⟨nd, rfl⟩⟩; refine ⟨_, rfl, ?_⟩) | (go_at_call 19; (with_reducible refine (whirligiglaw03_few.calls _ _ l1 true _ ?side1 ?side2 A7.out).mono ?_); (case side1 => repeat (first | exact (Kd.C_below ad.out (by repeat (first | (with_reducible first | exact HB.out | apply below_alloc | apply pw_below_drewN | apply below_drew1) | exact HB.out))) | (with_reducible refine Kd.C_alloc ?_ _) | (with_reducible refine Kd.C_drewN ?_ _) | (with_reducible refine Kd.C_drew ?_))); (case side2 => exact ae.out); rintro e w' ⟨rfl, ⟨nd, rfl⟩⟩) | (go_at_call 19; (with_reducible refine (whirligiglaw03_few.calls _ _ l2 t298 _ ?side1 ?side2 A9.out).mono ?_); (case side1 => repeat (first | exact (Kd.C_below af.out (by repeat (first | (with_reducible first | exact HB.out | apply below_alloc | apply pw_below_drewN | apply below_drew1) | exact HB.out))) | (with_reducible refine Kd.C_alloc ?_ _) | (with_reducible refine Kd.C_drewN ?_ _) | (with_reducible refine Kd.C_drew ?_))); (case side2 => exact ag.out); rintro e w' ⟨rfl, ⟨nd, rfl⟩⟩))
    go_meet
    case rel => exact ⟨_, (!t298), (by first | rfl | (simp; done) | (simp [*]; done)), H', ⟨by first | omega | exact Nat.le_refl _⟩, ⟨by repeat (first | (with_reducible first | exact HB.out | apply below_alloc | apply pw_below_drewN | apply below_drew1) | exact HB.out)⟩⟩
   ·replace c8 := Bool.eq_false_iff.mpr c8
    subst c8
    have H1 : (whirligiglaw03_CommOrder.j0 k l0 l1 l2 true) = some r := by rw [if_neg (show ¬ (false = true) by decide)] at H; exact H
    clear H
    have H := H1
    clear H1
    have H' := Aside0.mk H
    clear H
    go_wp2_with (first | ((with_reducible refine gate_callee (f := 19) rfl ?_); refine goesL_ (some 11) rfl rfl Try.func19 (by kernel_rfl) rfl #[.slice A0 l0.length c0] rfl (by (try simp only [List.map_toArray, List.map_cons, List.map_nil]); first | done | rfl) ?_; (with_reducible refine (whirligiglaw03_few.calls _ _ l0 true _ ?side1 ?side2 A5.out).mono ?_); (case side1 => repeat (first | exact (Kd.C_below ab.out HB.out) | (with_reducible refine Kd.C_alloc ?_ _) | (with_reducible refine Kd.C_drewN ?_ _) | (with_reducible refine Kd.C_drew ?_))); (case side2 => exact ac.out); rintro e w' ⟨rfl, ⟨nd, rfl⟩⟩; refine ⟨_, rfl, ?_⟩) | (go_at_call 19; (with_reducible refine (whirligiglaw03_few.calls _ _ l1 false _ ?side1 ?side2 A7.out).mono ?_); (case side1 => repeat (first | exact (Kd.C_below ad.out (by repeat (first | (with_reducible first | exact HB.out | apply below_alloc | apply pw_below_drewN | apply below_drew1) | exact HB.out))) | (with_reducible refine Kd.C_alloc ?_ _) | (with_reducible refine Kd.C_drewN ?_ _) | (with_reducible refine Kd.C_drew ?_))); (case side2 => exact ae.out); rintro e w' ⟨rfl, ⟨nd, rfl⟩⟩))
    go_meet
    case rel => exact ⟨_, (true), (by first | rfl | (simp; done) | (simp [*]; done)), H', ⟨by first | omega | exact Nat.le_refl _⟩, ⟨by repeat (first | (with_reducible first | exact HB.out | apply below_alloc | apply pw_below_drewN | apply below_drew1) | exact HB.out)⟩⟩
  ·replace c6 := Bool.eq_false_iff.mpr c6
   subst c6
   have H1 : (whirligiglaw03_CommOrder.j0 k l0 l1 l2 true) = some r := by rw [if_neg (show ¬ (false = true) by decide)] at H; exact H
   clear H
   have H := H1
   clear H1
   have H' := Aside0.mk H
   clear H
   go_wp2_with (first | ((with_reducible refine gate_callee (f := 19) rfl ?_); refine goesL_ (some 11) rfl rfl Try.func19 (by kernel_rfl) rfl #[.slice A0 l0.length c0] rfl (by (try simp only [List.map_toArray, List.map_cons, List.map_nil]); first | done | rfl) ?_; (with_reducible refine (whirligiglaw03_few.calls _ _ l0 false _ ?side1 ?side2 A5.out).mono ?_); (case side1 => repeat (first | exact (Kd.C_below ab.out HB.out) | (with_reducible refine Kd.C_alloc ?_ _) | (with_reducible refine Kd.C_drewN ?_ _) | (with_reducible refine Kd.C_drew ?_))); (case side2 => exact ac.out); rintro e w' ⟨rfl, ⟨nd, rfl⟩⟩; refine ⟨_, rfl, ?_⟩))
   go_meet
   case rel => exact ⟨_, (true), (by first | rfl | (simp; done) | (simp [*]; done)), H', ⟨by first | omega | exact Nat.le_refl _⟩, ⟨by repeat (first | (with_reducible first | exact HB.out | apply below_alloc | apply pw_below_drewN | apply below_drew1) | exact HB.out)⟩⟩
 case rest =>
  clear HC4
  try clear c1
  try clear c2
  try clear p2
  try clear c5
  try clear c6
  try clear c8
  obtain ⟨kq, x22_3, rfl, HA, HJ3, HB⟩ := hcut
  cases kq with
  | zero => exact absurd HA.out (by simp [whirligiglaw03_CommOrder.j0])
  | succ ah =>
   have H := HA.out
   clear HA
   simp only [whirligiglaw03_CommOrder.j0] at H
   by_cases c10 : x22_3 = true
   ·subst c10
    have H1 : ((whirligiglaw03_lives.f ah).bind fun t299 => (some t299)) = some r := by rw [if_pos rfl] at H; exact H
    clear H
    have H := H1
    clear H1
    replace H := Option.bind_eq_some_iff.mp H
    obtain ⟨t299, A110, H⟩ := H
    replace H : (some t299) = some r := H
    have A11 := Aside0.mk A110
    clear A110
    obtain rfl := Option.some.inj H
    go_wp2_with (first | ((with_reducible refine gate_callee (f := 9) rfl ?_); refine goesL_ (some 23) rfl rfl Try.func9 (by kernel_rfl) rfl #[] rfl (by (try simp only [List.map_toArray, List.map_cons, List.map_nil]); first | done | rfl) ?_; (with_reducible refine (whirligiglaw03_lives.calls ah  t299 _ A11.out).mono ?_); rintro e w12 ⟨rfl, hb⟩; refine ⟨_, rfl, ?_⟩; replace HB := Aside0.mk (k211a.z HB.out hb rfl rfl rfl rfl); (try clear hb); (try clear aa); (try clear hk); (try clear hi)))
    go_ret
    exact ⟨by first | rfl | (simp [errW_none, errW_some] <;> rfl) | (simp [*, errW_none, errW_some] <;> rfl), by repeat (first | (with_reducible first | exact HB.out | apply below_alloc | apply pw_below_drewN | apply below_drew1) | exact HB.out)⟩
   ·replace c10 := Bool.eq_false_iff.mpr c10
    subst c10
    have H1 := H
    rw [if_neg (show ¬ (false = true) by decide)] at H1
    clear H
    have H := H1
    clear H1
    replace H := Option.bind_eq_some_iff.mp H
    obtain ⟨t300, A130, H⟩ := H
    (try dsimp only at H)
    have ai := Aside0.mk A130
    clear A130
    replace H := Option.bind_eq_some_iff.mp H
    obtain ⟨t301, A140, H⟩ := H
    (try dsimp only at H)
    have aj := Aside0.mk A140
    clear A140
    replace H := Option.bind_eq_some_iff.mp H
    obtain ⟨t302, A150, H⟩ := H
    (try dsimp only at H)
    have ak := Aside0.mk A150
    clear A150
    replace H := Option.bind_eq_some_iff.mp H
    obtain ⟨t303, A160, H⟩ := H
    (try dsimp only at H)
    have al := Aside0.mk A160
    clear A160
    by_cases c17 : t303 = (wrap64 (-t300))
    ·rw [if_pos c17] at H
     have c17b0 : (t303 == (wrap64 (-t300))) = true := beq_iff_eq.mpr c17
     have c17b1 : (t303 != (wrap64 (-t300))) = false := bne_eq_false_iff_eq.mpr c17
     clear c17
     replace H := Option.bind_eq_some_iff.mp H
     obtain ⟨t304, A180, H⟩ := H
     (try dsimp only at H)
     have am := Aside0.mk A180
     clear A180
     by_cases an : ((t300 == 0) != t304) = true
     ·rw [if_pos an] at H
      have c19b0 : ((t300 == 0) != t304) = true := an
      (try (have c19b1 : decide ((t300 == 0) = t304) = false := by simpa using an))
      (try (have c19b2 : ((t300 == 0) == t304) = false := by simpa using an))
      (try (have c19b3 : ¬ ((t300 == 0) = t304) := by simpa using an))
      clear an
      obtain rfl := Option.some.inj H
      go_wp2_with (first | ((with_reducible refine gate_callee (f := 23) rfl ?_); refine goesL_ (some 26) rfl rfl Try.func23 (by kernel_rfl) rfl #[.slice A0 l0.length c0, .slice A1 l1.length c1] rfl (by (try simp only [List.map_toArray, List.map_cons, List.map_nil]); first | done | rfl) ?_; (with_reducible refine (comm_Compare.calls _ _ l0 _ _ l1 t300 _ ?side1 ?side2 ?side3 ?side4 ai.out).mono ?_); (case side1 | side3 => repeat (first | exact (Kd.C_below ab.out HB.out) | exact (Kd.C_below ad.out HB.out) | (with_reducible refine Kd.C_alloc ?_ _) | (with_reducible refine Kd.C_drewN ?_ _) | (with_reducible refine Kd.C_drew ?_))); (case side2 | side4 => first | exact ac.out | exact ae.out); rintro e w20 ⟨rfl, hb⟩; refine ⟨_, rfl, ?_⟩; replace HB := Aside0.mk (k211a.z HB.out hb rfl rfl rfl rfl); (try clear hb); (try clear aa); (try clear hk); (try clear hi)) | ((with_reducible refine gate_callee (f := 23) rfl ?_); refine goesL_ (some 29) rfl rfl Try.func23 (by kernel_rfl) rfl #[.slice A1 l1.length c1, .slice A2 l2.length c2] rfl (by (try simp only [List.map_toArray, List.map_cons, List.map_nil]); first | done | rfl) ?_; (with_reducible refine (comm_Compare.calls _ _ l1 _ _ l2 t301 _ ?side1 ?side2 ?side3 ?side4 aj.out).mono ?_); (case side1 | side3 => repeat (first | exact (Kd.C_below ad.out HB.out) | exact (Kd.C_below af.out HB.out) | (with_reducible refine Kd.C_alloc ?_ _) | (with_reducible refine Kd.C_drewN ?_ _) | (with_reducible refine Kd.C_drew ?_))); (case side2 | side4 => first | exact ae.out | exact ag.out); rintro e w21 ⟨rfl, hb⟩; refine ⟨_, rfl, ?_⟩; replace HB := Aside0.mk (k211a.z HB.out hb rfl rfl rfl rfl); (try clear hb); (try clear aa); (try clear hk); (try clear hi)) | ((with_reducible refine gate_callee (f := 23) rfl ?_); refine goesL_ (some 32) rfl rfl Try.func23 (by kernel_rfl) rfl #[.slice A0 l0.length c0, .slice A2 l2.length c2] rfl (by (try simp only [List.map_toArray, List.map_cons, List.map_nil]); first | done | rfl) ?_; (with_reducible refine (comm_Compare.calls _ _ l0 _ _ l2 t302 _ ?side1 ?side2 ?side3 ?side4 ak.out).mono ?_); (case side1 | side3 => repeat (first | exact (Kd.C_below ab.out HB.out) | exact (Kd.C_below af.out HB.out) | (with_reducible refine Kd.C_alloc ?_ _) | (with_reducible refine Kd.C_drewN ?_ _) | (with_reducible refine Kd.C_drew ?_))); (case side2 | side4 => first | exact ac.out | exact ag.out); rintro e w22 ⟨rfl, hb⟩; refine ⟨_, rfl, ?_⟩; replace HB := Aside0.mk (k211a.z HB.out hb rfl rfl rfl rfl); (try clear hb); (try clear aa); (try clear hk); (try clear hi)) | ((with_reducible refine gate_callee (f := 23) rfl ?_); refine goesL_ (some 35) rfl rfl Try.func23 (by kernel_rfl) rfl #[.slice A1 l1.length c1, .slice A0 l0.length c0] rfl (by (try simp only [List.map_toArray, List.map_cons, List.map_nil]); first | done | rfl) ?_; (with_reducible refine (comm_Compare.calls _ _ l1 _ _ l0 t303 _ ?side1 ?side2 ?side3 ?side4 al.out).mono ?_); (case side1 | side3 => repeat (first | exact (Kd.C_below ad.out HB.out) | exact (Kd.C_below ab.out HB.out) | (with_reducible refine Kd.C_alloc ?_ _) | (with_reducible refine Kd.C_drewN ?_ _) | (with_reducible refine Kd.C_drew ?_))); (case side2 | side4 => first | exact ae.out | exact ac.out); rintro e w23 ⟨rfl, hb⟩; refine ⟨_, rfl, ?_⟩; replace HB := Aside0.mk (k211a.z HB.out hb rfl rfl rfl rfl); (try clear hb); (try clear aa); (try clear hk); (try clear hi)) | (go_at_call 22; (with_reducible refine (whirligigref03_Same.calls ah _ _ l0 _ _ l1 t304 _ ?side1 ?side2 ?side3 ?side4 am.out).mono ?_); (case side1 | side3 => repeat (first | exact (Kd.C_below ab.out HB.out) | exact (Kd.C_below ad.out HB.out) | (with_reducible refine Kd.C_alloc ?_ _) | (with_reducible refine Kd.C_drewN ?_ _) | (with_reducible refine Kd.C_drew ?_))); (case side2 | side4 => first | exact ac.out | exact ae.out); rintro e w' ⟨rfl, ⟨nd, rfl⟩⟩))
      go_ret
      exact ⟨by first | rfl | (simp [errW_none, errW_some] <;> rfl) | (simp [*, errW_none, errW_some] <;> rfl), by repeat (first | (with_reducible first | exact HB.out | apply below_alloc | apply pw_below_drewN | apply below_drew1) | exact HB.out)⟩
     ·rw [if_neg an] at H
      have c19b0 : ((t300 == 0) != t304) = false := by simpa using an
      (try (have c19b1 : decide ((t300 == 0) = t304) = true := by simpa using an))
      (try (have c19b2 : ((t300 == 0) == t304) = true := by simpa using an))
      clear an
      by_cases c24 : t300 < (-1)
      ·rw [if_pos c24] at H
       have c24b0 : decide (t300 < (-1)) = true := decide_eq_true c24
       clear c24
       obtain rfl := Option.some.inj H
       go_wp2_with (first | ((with_reducible refine gate_callee (f := 23) rfl ?_); refine goesL_ (some 26) rfl rfl Try.func23 (by kernel_rfl) rfl #[.slice A0 l0.length c0, .slice A1 l1.length c1] rfl (by (try simp only [List.map_toArray, List.map_cons, List.map_nil]); first | done | rfl) ?_; (with_reducible refine (comm_Compare.calls _ _ l0 _ _ l1 t300 _ ?side1 ?side2 ?side3 ?side4 ai.out).mono ?_); (case side1 | side3 => repeat (first | exact (Kd.C_below ab.out HB.out) | exact (Kd.C_below ad.out HB.out) | (with_reducible refine Kd.C_alloc ?_ _) | (with_reducible refine Kd.C_drewN ?_ _) | (with_reducible refine Kd.C_drew ?_))); (case side2 | side4 => first | exact ac.out | exact ae.out); rintro e w25 ⟨rfl, hb⟩; refine ⟨_, rfl, ?_⟩; replace HB := Aside0.mk (k211a.z HB.out hb rfl rfl rfl rfl); (try clear hb); (try clear aa); (try clear hk); (try clear hi)) | ((with_reducible refine gate_callee (f := 23) rfl ?_); refine goesL_ (some 29) rfl rfl Try.func23 (by kernel_rfl) rfl #[.slice A1 l1.length c1, .slice A2 l2.length c2] rfl (by (try simp only [List.map_toArray, List.map_cons, List.map_nil]); first | done | rfl) ?_; (with_reducible refine (comm_Compare.calls _ _ l1 _ _ l2 t301 _ ?side1 ?side2 ?side3 ?side4 aj.out).mono ?_); (case side1 | side3 => repeat (first | exact (Kd.C_below ad.out HB.out) | exact (Kd.C_below af.out HB.out) | (with_reducible refine Kd.C_alloc ?_ _) | (with_reducible refine Kd.C_drewN ?_ _) | (with_reducible refine Kd.C_drew ?_))); (case side2 | side4 => first | exact ae.out | exact ag.out); rintro e w26 ⟨rfl, hb⟩; refine ⟨_, rfl, ?_⟩; replace HB := Aside0.mk (k211a.z HB.out hb rfl rfl rfl rfl); (try clear hb); (try clear aa); (try clear hk); (try clear hi)) | ((with_reducible refine gate_callee (f := 23) rfl ?_); refine goesL_ (some 32) rfl rfl Try.func23 (by kernel_rfl) rfl #[.slice A0 l0.length c0, .slice A2 l2.length c2] rfl (by (try simp only [List.map_toArray, List.map_cons, List.map_nil]); first | done | rfl) ?_; (with_reducible refine (comm_Compare.calls _ _ l0 _ _ l2 t302 _ ?side1 ?side2 ?side3 ?side4 ak.out).mono ?_); (case side1 | side3 => repeat (first | exact (Kd.C_below ab.out HB.out) | exact (Kd.C_below af.out HB.out) | (with_reducible refine Kd.C_alloc ?_ _) | (with_reducible refine Kd.C_drewN ?_ _) | (with_reducible refine Kd.C_drew ?_))); (case side2 | side4 => first | exact ac.out | exact ag.out); rintro e w27 ⟨rfl, hb⟩; refine ⟨_, rfl, ?_⟩; replace HB := Aside0.mk (k211a.z HB.out hb rfl rfl rfl rfl); (try clear hb); (try clear aa); (try clear hk); (try clear hi)) | ((with_reducible refine gate_callee (f := 23) rfl ?_); refine goesL_ (some 35) rfl rfl Try.func23 (by kernel_rfl) rfl #[.slice A1 l1.length c1, .slice A0 l0.length c0] rfl (by (try simp only [List.map_toArray, List.map_cons, List.map_nil]); first | done | rfl) ?_; (with_reducible refine (comm_Compare.calls _ _ l1 _ _ l0 t303 _ ?side1 ?side2 ?side3 ?side4 al.out).mono ?_); (case side1 | side3 => repeat (first | exact (Kd.C_below ad.out HB.out) | exact (Kd.C_below ab.out HB.out) | (with_reducible refine Kd.C_alloc ?_ _) | (with_reducible refine Kd.C_drewN ?_ _) | (with_reducible refine Kd.C_drew ?_))); (case side2 | side4 => first | exact ae.out | exact ac.out); rintro e w28 ⟨rfl, hb⟩; refine ⟨_, rfl, ?_⟩; replace HB := Aside0.mk (k211a.z HB.out hb rfl rfl rfl rfl); (try clear hb); (try clear aa); (try clear hk); (try clear hi)) | (go_at_call 22; (with_reducible refine (whirligigref03_Same.calls ah _ _ l0 _ _ l1 t304 _ ?side1 ?side2 ?side3 ?side4 am.out).mono ?_); (case side1 | side3 => repeat (first | exact (Kd.C_below ab.out HB.out) | exact (Kd.C_below ad.out HB.out) | (with_reducible refine Kd.C_alloc ?_ _) | (with_reducible refine Kd.C_drewN ?_ _) | (with_reducible refine Kd.C_drew ?_))); (case side2 | side4 => first | exact ac.out | exact ae.out); rintro e w' ⟨rfl, ⟨nd, rfl⟩⟩))
       go_ret
       exact ⟨by first | rfl | (simp [errW_none, errW_some] <;> rfl) | (simp [*, errW_none, errW_some] <;> rfl), by repeat (first | (with_reducible first | exact HB.out | apply below_alloc | apply pw_below_drewN | apply below_drew1) | exact HB.out)⟩
      ·rw [if_neg c24] at H
       have c24b0 : decide (t300 < (-1)) = false := decide_eq_false c24
       clear c24
       by_cases c29 : t300 > 1
       ·rw [if_pos c29] at H
        have c29b0 : decide (1 < t300) = true := decide_eq_true c29
        clear c29
        obtain rfl := Option.some.inj H
        go_wp2_with (first | ((with_reducible refine gate_callee (f := 23) rfl ?_); refine goesL_ (some 26) rfl rfl Try.func23 (by kernel_rfl) rfl #[.slice A0 l0.length c0, .slice A1 l1.length c1] rfl (by (try simp only [List.map_toArray, List.map_cons, List.map_nil]); first | done | rfl) ?_; (with_reducible refine (comm_Compare.calls _ _ l0 _ _ l1 t300 _ ?side1 ?side2 ?side3 ?side4 ai.out).mono ?_); (case side1 | side3 => repeat (first | exact (Kd.C_below ab.out HB.out) | exact (Kd.C_below ad.out HB.out) | (with_reducible refine Kd.C_alloc ?_ _) | (with_reducible refine Kd.C_drewN ?_ _) | (with_reducible refine Kd.C_drew ?_))); (case side2 | side4 => first | exact ac.out | exact ae.out); rintro e w30 ⟨rfl, hb⟩; refine ⟨_, rfl, ?_⟩; replace HB := Aside0.mk (k211a.z HB.out hb rfl rfl rfl rfl); (try clear hb); (try clear aa); (try clear hk); (try clear hi)) | ((with_reducible refine gate_callee (f := 23) rfl ?_); refine goesL_ (some 29) rfl rfl Try.func23 (by kernel_rfl) rfl #[.slice A1 l1.length c1, .slice A2 l2.length c2] rfl (by (try simp only [List.map_toArray, List.map_cons, List.map_nil]); first | done | rfl) ?_; (with_reducible refine (comm_Compare.calls _ _ l1 _ _ l2 t301 _ ?side1 ?side2 ?side3 ?side4 aj.out).mono ?_); (case side1 | side3 => repeat (first | exact (Kd.C_below ad.out HB.out) | exact (Kd.C_below af.out HB.out) | (with_reducible refine Kd.C_alloc ?_ _) | (with_reducible refine Kd.C_drewN ?_ _) | (with_reducible refine Kd.C_drew ?_))); (case side2 | side4 => first | exact ae.out | exact ag.out); rintro e w31 ⟨rfl, hb⟩; refine ⟨_, rfl, ?_⟩; replace HB := Aside0.mk (k211a.z HB.out hb rfl rfl rfl rfl); (try clear hb); (try clear aa); (try clear hk); (try clear hi)) | ((with_reducible refine gate_callee (f := 23) rfl ?_); refine goesL_ (some 32) rfl rfl Try.func23 (by kernel_rfl) rfl #[.slice A0 l0.length c0, .slice A2 l2.length c2] rfl (by (try simp only [List.map_toArray, List.map_cons, List.map_nil]); first | done | rfl) ?_; (with_reducible refine (comm_Compare.calls _ _ l0 _ _ l2 t302 _ ?side1 ?side2 ?side3 ?side4 ak.out).mono ?_); (case side1 | side3 => repeat (first | exact (Kd.C_below ab.out HB.out) | exact (Kd.C_below af.out HB.out) | (with_reducible refine Kd.C_alloc ?_ _) | (with_reducible refine Kd.C_drewN ?_ _) | (with_reducible refine Kd.C_drew ?_))); (case side2 | side4 => first | exact ac.out | exact ag.out); rintro e w32 ⟨rfl, hb⟩; refine ⟨_, rfl, ?_⟩; replace HB := Aside0.mk (k211a.z HB.out hb rfl rfl rfl rfl); (try clear hb); (try clear aa); (try clear hk); (try clear hi)) | ((with_reducible refine gate_callee (f := 23) rfl ?_); refine goesL_ (some 35) rfl rfl Try.func23 (by kernel_rfl) rfl #[.slice A1 l1.length c1, .slice A0 l0.length c0] rfl (by (try simp only [List.map_toArray, List.map_cons, List.map_nil]); first | done | rfl) ?_; (with_reducible refine (comm_Compare.calls _ _ l1 _ _ l0 t303 _ ?side1 ?side2 ?side3 ?side4 al.out).mono ?_); (case side1 | side3 => repeat (first | exact (Kd.C_below ad.out HB.out) | exact (Kd.C_below ab.out HB.out) | (with_reducible refine Kd.C_alloc ?_ _) | (with_reducible refine Kd.C_drewN ?_ _) | (with_reducible refine Kd.C_drew ?_))); (case side2 | side4 => first | exact ae.out | exact ac.out); rintro e w33 ⟨rfl, hb⟩; refine ⟨_, rfl, ?_⟩; replace HB := Aside0.mk (k211a.z HB.out hb rfl rfl rfl rfl); (try clear hb); (try clear aa); (try clear hk); (try clear hi)) | (go_at_call 22; (with_reducible refine (whirligigref03_Same.calls ah _ _ l0 _ _ l1 t304 _ ?side1 ?side2 ?side3 ?side4 am.out).mono ?_); (case side1 | side3 => repeat (first | exact (Kd.C_below ab.out HB.out) | exact (Kd.C_below ad.out HB.out) | (with_reducible refine Kd.C_alloc ?_ _) | (with_reducible refine Kd.C_drewN ?_ _) | (with_reducible refine Kd.C_drew ?_))); (case side2 | side4 => first | exact ac.out | exact ae.out); rintro e w' ⟨rfl, ⟨nd, rfl⟩⟩))
        go_ret
        exact ⟨by first | rfl | (simp [errW_none, errW_some] <;> rfl) | (simp [*, errW_none, errW_some] <;> rfl), by repeat (first | (with_reducible first | exact HB.out | apply below_alloc | apply pw_below_drewN | apply below_drew1) | exact HB.out)⟩
       ·rw [if_neg c29] at H
        have c29b0 : decide (1 < t300) = false := decide_eq_false c29
        clear c29
        by_cases c34 : t300 > 0
        ·rw [if_pos c34] at H
         have c34b0 : decide (0 < t300) = true := decide_eq_true c34
         clear c34
         replace H := Option.bind_eq_some_iff.mp H
         obtain ⟨t305, A350, H⟩ := H
         replace H : (some t305) = some r := H
         have A35 := Aside0.mk A350
         clear A350
         obtain rfl := Option.some.inj H
         go_wp2_with (first | ((with_reducible refine gate_callee (f := 23) rfl ?_); refine goesL_ (some 26) rfl rfl Try.func23 (by kernel_rfl) rfl #[.slice A0 l0.length c0, .slice A1 l1.length c1] rfl (by (try simp only [List.map_toArray, List.map_cons, List.map_nil]); first | done | rfl) ?_; (with_reducible refine (comm_Compare.calls _ _ l0 _ _ l1 t300 _ ?side1 ?side2 ?side3 ?side4 ai.out).mono ?_); (case side1 | side3 => repeat (first | exact (Kd.C_below ab.out HB.out) | exact (Kd.C_below ad.out HB.out) | (with_reducible refine Kd.C_alloc ?_ _) | (with_reducible refine Kd.C_drewN ?_ _) | (with_reducible refine Kd.C_drew ?_))); (case side2 | side4 => first | exact ac.out | exact ae.out); rintro e w36 ⟨rfl, hb⟩; refine ⟨_, rfl, ?_⟩; replace HB := Aside0.mk (k211a.z HB.out hb rfl rfl rfl rfl); (try clear hb); (try clear aa); (try clear hk); (try clear hi)) | ((with_reducible refine gate_callee (f := 23) rfl ?_); refine goesL_ (some 29) rfl rfl Try.func23 (by kernel_rfl) rfl #[.slice A1 l1.length c1, .slice A2 l2.length c2] rfl (by (try simp only [List.map_toArray, List.map_cons, List.map_nil]); first | done | rfl) ?_; (with_reducible refine (comm_Compare.calls _ _ l1 _ _ l2 t301 _ ?side1 ?side2 ?side3 ?side4 aj.out).mono ?_); (case side1 | side3 => repeat (first | exact (Kd.C_below ad.out HB.out) | exact (Kd.C_below af.out HB.out) | (with_reducible refine Kd.C_alloc ?_ _) | (with_reducible refine Kd.C_drewN ?_ _) | (with_reducible refine Kd.C_drew ?_))); (case side2 | side4 => first | exact ae.out | exact ag.out); rintro e w37 ⟨rfl, hb⟩; refine ⟨_, rfl, ?_⟩; replace HB := Aside0.mk (k211a.z HB.out hb rfl rfl rfl rfl); (try clear hb); (try clear aa); (try clear hk); (try clear hi)) | ((with_reducible refine gate_callee (f := 23) rfl ?_); refine goesL_ (some 32) rfl rfl Try.func23 (by kernel_rfl) rfl #[.slice A0 l0.length c0, .slice A2 l2.length c2] rfl (by (try simp only [List.map_toArray, List.map_cons, List.map_nil]); first | done | rfl) ?_; (with_reducible refine (comm_Compare.calls _ _ l0 _ _ l2 t302 _ ?side1 ?side2 ?side3 ?side4 ak.out).mono ?_); (case side1 | side3 => repeat (first | exact (Kd.C_below ab.out HB.out) | exact (Kd.C_below af.out HB.out) | (with_reducible refine Kd.C_alloc ?_ _) | (with_reducible refine Kd.C_drewN ?_ _) | (with_reducible refine Kd.C_drew ?_))); (case side2 | side4 => first | exact ac.out | exact ag.out); rintro e w38 ⟨rfl, hb⟩; refine ⟨_, rfl, ?_⟩; replace HB := Aside0.mk (k211a.z HB.out hb rfl rfl rfl rfl); (try clear hb); (try clear aa); (try clear hk); (try clear hi)) | ((with_reducible refine gate_callee (f := 23) rfl ?_); refine goesL_ (some 35) rfl rfl Try.func23 (by kernel_rfl) rfl #[.slice A1 l1.length c1, .slice A0 l0.length c0] rfl (by (try simp only [List.map_toArray, List.map_cons, List.map_nil]); first | done | rfl) ?_; (with_reducible refine (comm_Compare.calls _ _ l1 _ _ l0 t303 _ ?side1 ?side2 ?side3 ?side4 al.out).mono ?_); (case side1 | side3 => repeat (first | exact (Kd.C_below ad.out HB.out) | exact (Kd.C_below ab.out HB.out) | (with_reducible refine Kd.C_alloc ?_ _) | (with_reducible refine Kd.C_drewN ?_ _) | (with_reducible refine Kd.C_drew ?_))); (case side2 | side4 => first | exact ae.out | exact ac.out); rintro e w39 ⟨rfl, hb⟩; refine ⟨_, rfl, ?_⟩; replace HB := Aside0.mk (k211a.z HB.out hb rfl rfl rfl rfl); (try clear hb); (try clear aa); (try clear hk); (try clear hi)) | (go_at_call 22; (with_reducible refine (whirligigref03_Same.calls ah _ _ l0 _ _ l1 t304 _ ?side1 ?side2 ?side3 ?side4 am.out).mono ?_); (case side1 | side3 => repeat (first | exact (Kd.C_below ab.out HB.out) | exact (Kd.C_below ad.out HB.out) | (with_reducible refine Kd.C_alloc ?_ _) | (with_reducible refine Kd.C_drewN ?_ _) | (with_reducible refine Kd.C_drew ?_))); (case side2 | side4 => first | exact ac.out | exact ae.out); rintro e w' ⟨rfl, ⟨nd, rfl⟩⟩) | (go_at_call 9; (with_reducible refine (whirligiglaw03_lives.calls ah  t305 _ A35.out).mono ?_); rintro e w40 ⟨rfl, hb⟩; replace HB := Aside0.mk (k211a.z HB.out hb rfl rfl rfl rfl); (try clear hb); (try clear aa); (try clear hk); (try clear hi)))
         go_ret
         exact ⟨by first | rfl | (simp [errW_none, errW_some] <;> rfl) | (simp [*, errW_none, errW_some] <;> rfl), by repeat (first | (with_reducible first | exact HB.out | apply below_alloc | apply pw_below_drewN | apply below_drew1) | exact HB.out)⟩
        ·rw [if_neg c34] at H
         have c34b0 : decide (0 < t300) = false := decide_eq_false c34
         clear c34
         by_cases c41 : t301 > 0
         ·rw [if_pos c41] at H
          have c41b0 : decide (0 < t301) = true := decide_eq_true c41
          clear c41
          replace H := Option.bind_eq_some_iff.mp H
          obtain ⟨t306, A420, H⟩ := H
          replace H : (some t306) = some r := H
          have A42 := Aside0.mk A420
          clear A420
          obtain rfl := Option.some.inj H
          go_wp2_with (first | ((with_reducible refine gate_callee (f := 23) rfl ?_); refine goesL_ (some 26) rfl rfl Try.func23 (by kernel_rfl) rfl #[.slice A0 l0.length c0, .slice A1 l1.length c1] rfl (by (try simp only [List.map_toArray, List.map_cons, List.map_nil]); first | done | rfl) ?_; (with_reducible refine (comm_Compare.calls _ _ l0 _ _ l1 t300 _ ?side1 ?side2 ?side3 ?side4 ai.out).mono ?_); (case side1 | side3 => repeat (first | exact (Kd.C_below ab.out HB.out) | exact (Kd.C_below ad.out HB.out) | (with_reducible refine Kd.C_alloc ?_ _) | (with_reducible refine Kd.C_drewN ?_ _) | (with_reducible refine Kd.C_drew ?_))); (case side2 | side4 => first | exact ac.out | exact ae.out); rintro e w43 ⟨rfl, hb⟩; refine ⟨_, rfl, ?_⟩; replace HB := Aside0.mk (k211a.z HB.out hb rfl rfl rfl rfl); (try clear hb); (try clear aa); (try clear hk); (try clear hi)) | ((with_reducible refine gate_callee (f := 23) rfl ?_); refine goesL_ (some 29) rfl rfl Try.func23 (by kernel_rfl) rfl #[.slice A1 l1.length c1, .slice A2 l2.length c2] rfl (by (try simp only [List.map_toArray, List.map_cons, List.map_nil]); first | done | rfl) ?_; (with_reducible refine (comm_Compare.calls _ _ l1 _ _ l2 t301 _ ?side1 ?side2 ?side3 ?side4 aj.out).mono ?_); (case side1 | side3 => repeat (first | exact (Kd.C_below ad.out HB.out) | exact (Kd.C_below af.out HB.out) | (with_reducible refine Kd.C_alloc ?_ _) | (with_reducible refine Kd.C_drewN ?_ _) | (with_reducible refine Kd.C_drew ?_))); (case side2 | side4 => first | exact ae.out | exact ag.out); rintro e w44 ⟨rfl, hb⟩; refine ⟨_, rfl, ?_⟩; replace HB := Aside0.mk (k211a.z HB.out hb rfl rfl rfl rfl); (try clear hb); (try clear aa); (try clear hk); (try clear hi)) | ((with_reducible refine gate_callee (f := 23) rfl ?_); refine goesL_ (some 32) rfl rfl Try.func23 (by kernel_rfl) rfl #[.slice A0 l0.length c0, .slice A2 l2.length c2] rfl (by (try simp only [List.map_toArray, List.map_cons, List.map_nil]); first | done | rfl) ?_; (with_reducible refine (comm_Compare.calls _ _ l0 _ _ l2 t302 _ ?side1 ?side2 ?side3 ?side4 ak.out).mono ?_); (case side1 | side3 => repeat (first | exact (Kd.C_below ab.out HB.out) | exact (Kd.C_below af.out HB.out) | (with_reducible refine Kd.C_alloc ?_ _) | (with_reducible refine Kd.C_drewN ?_ _) | (with_reducible refine Kd.C_drew ?_))); (case side2 | side4 => first | exact ac.out | exact ag.out); rintro e w45 ⟨rfl, hb⟩; refine ⟨_, rfl, ?_⟩; replace HB := Aside0.mk (k211a.z HB.out hb rfl rfl rfl rfl); (try clear hb); (try clear aa); (try clear hk); (try clear hi)) | ((with_reducible refine gate_callee (f := 23) rfl ?_); refine goesL_ (some 35) rfl rfl Try.func23 (by kernel_rfl) rfl #[.slice A1 l1.length c1, .slice A0 l0.length c0] rfl (by (try simp only [List.map_toArray, List.map_cons, List.map_nil]); first | done | rfl) ?_; (with_reducible refine (comm_Compare.calls _ _ l1 _ _ l0 t303 _ ?side1 ?side2 ?side3 ?side4 al.out).mono ?_); (case side1 | side3 => repeat (first | exact (Kd.C_below ad.out HB.out) | exact (Kd.C_below ab.out HB.out) | (with_reducible refine Kd.C_alloc ?_ _) | (with_reducible refine Kd.C_drewN ?_ _) | (with_reducible refine Kd.C_drew ?_))); (case side2 | side4 => first | exact ae.out | exact ac.out); rintro e w46 ⟨rfl, hb⟩; refine ⟨_, rfl, ?_⟩; replace HB := Aside0.mk (k211a.z HB.out hb rfl rfl rfl rfl); (try clear hb); (try clear aa); (try clear hk); (try clear hi)) | (go_at_call 22; (with_reducible refine (whirligigref03_Same.calls ah _ _ l0 _ _ l1 t304 _ ?side1 ?side2 ?side3 ?side4 am.out).mono ?_); (case side1 | side3 => repeat (first | exact (Kd.C_below ab.out HB.out) | exact (Kd.C_below ad.out HB.out) | (with_reducible refine Kd.C_alloc ?_ _) | (with_reducible refine Kd.C_drewN ?_ _) | (with_reducible refine Kd.C_drew ?_))); (case side2 | side4 => first | exact ac.out | exact ae.out); rintro e w' ⟨rfl, ⟨nd, rfl⟩⟩) | (go_at_call 9; (with_reducible refine (whirligiglaw03_lives.calls ah  t306 _ A42.out).mono ?_); rintro e w47 ⟨rfl, hb⟩; replace HB := Aside0.mk (k211a.z HB.out hb rfl rfl rfl rfl); (try clear hb); (try clear aa); (try clear hk); (try clear hi)))
          go_ret
          exact ⟨by first | rfl | (simp [errW_none, errW_some] <;> rfl) | (simp [*, errW_none, errW_some] <;> rfl), by repeat (first | (with_reducible first | exact HB.out | apply below_alloc | apply pw_below_drewN | apply below_drew1) | exact HB.out)⟩
         ·rw [if_neg c41] at H
          have c41b0 : decide (0 < t301) = false := decide_eq_false c41
          clear c41
          by_cases c48 : t302 ≤ 0
          ·rw [if_pos c48] at H
           have c48b0 : decide (t302 ≤ 0) = true := decide_eq_true c48
           clear c48
           by_cases c49 : t300 = 0
           ·rw [if_pos c49] at H
            have c49b0 : (t300 == 0) = true := beq_iff_eq.mpr c49
            try (have ls1 := c19b0; rw [c49b0] at ls1; simp at ls1)
            have c49b1 : (t300 != 0) = false := bne_eq_false_iff_eq.mpr c49
            clear c49
            by_cases c50 : t301 = 0
            ·rw [if_pos c50] at H
             have c50b0 : (t301 == 0) = true := beq_iff_eq.mpr c50
             have c50b1 : (t301 != 0) = false := bne_eq_false_iff_eq.mpr c50
             clear c50
             replace H := Option.bind_eq_some_iff.mp H
             obtain ⟨t307, A510, H⟩ := H
             replace H : (some t307) = some r := H
             have A51 := Aside0.mk A510
             clear A510
             obtain rfl := Option.some.inj H
             go_wp2_with (first | ((with_reducible refine gate_callee (f := 23) rfl ?_); refine goesL_ (some 26) rfl rfl Try.func23 (by kernel_rfl) rfl #[.slice A0 l0.length c0, .slice A1 l1.length c1] rfl (by (try simp only [List.map_toArray, List.map_cons, List.map_nil]); first | done | rfl) ?_; (with_reducible refine (comm_Compare.calls _ _ l0 _ _ l1 t300 _ ?side1 ?side2 ?side3 ?side4 ai.out).mono ?_); (case side1 | side3 => repeat (first | exact (Kd.C_below ab.out HB.out) | exact (Kd.C_below ad.out HB.out) | (with_reducible refine Kd.C_alloc ?_ _) | (with_reducible refine Kd.C_drewN ?_ _) | (with_reducible refine Kd.C_drew ?_))); (case side2 | side4 => first | exact ac.out | exact ae.out); rintro e w52 ⟨rfl, hb⟩; refine ⟨_, rfl, ?_⟩; replace HB := Aside0.mk (k211a.z HB.out hb rfl rfl rfl rfl); (try clear hb); (try clear aa); (try clear hk); (try clear hi)) | ((with_reducible refine gate_callee (f := 23) rfl ?_); refine goesL_ (some 29) rfl rfl Try.func23 (by kernel_rfl) rfl #[.slice A1 l1.length c1, .slice A2 l2.length c2] rfl (by (try simp only [List.map_toArray, List.map_cons, List.map_nil]); first | done | rfl) ?_; (with_reducible refine (comm_Compare.calls _ _ l1 _ _ l2 t301 _ ?side1 ?side2 ?side3 ?side4 aj.out).mono ?_); (case side1 | side3 => repeat (first | exact (Kd.C_below ad.out HB.out) | exact (Kd.C_below af.out HB.out) | (with_reducible refine Kd.C_alloc ?_ _) | (with_reducible refine Kd.C_drewN ?_ _) | (with_reducible refine Kd.C_drew ?_))); (case side2 | side4 => first | exact ae.out | exact ag.out); rintro e w53 ⟨rfl, hb⟩; refine ⟨_, rfl, ?_⟩; replace HB := Aside0.mk (k211a.z HB.out hb rfl rfl rfl rfl); (try clear hb); (try clear aa); (try clear hk); (try clear hi)) | ((with_reducible refine gate_callee (f := 23) rfl ?_); refine goesL_ (some 32) rfl rfl Try.func23 (by kernel_rfl) rfl #[.slice A0 l0.length c0, .slice A2 l2.length c2] rfl (by (try simp only [List.map_toArray, List.map_cons, List.map_nil]); first | done | rfl) ?_; (with_reducible refine (comm_Compare.calls _ _ l0 _ _ l2 t302 _ ?side1 ?side2 ?side3 ?side4 ak.out).mono ?_); (case side1 | side3 => repeat (first | exact (Kd.C_below ab.out HB.out) | exact (Kd.C_below af.out HB.out) | (with_reducible refine Kd.C_alloc ?_ _) | (with_reducible refine Kd.C_drewN ?_ _) | (with_reducible refine Kd.C_drew ?_))); (case side2 | side4 => first | exact ac.out | exact ag.out); rintro e w54 ⟨rfl, hb⟩; refine ⟨_, rfl, ?_⟩; replace HB := Aside0.mk (k211a.z HB.out hb rfl rfl rfl rfl); (try clear hb); (try clear aa); (try clear hk); (try clear hi)) | ((with_reducible refine gate_callee (f := 23) rfl ?_); refine goesL_ (some 35) rfl rfl Try.func23 (by kernel_rfl) rfl #[.slice A1 l1.length c1, .slice A0 l0.length c0] rfl (by (try simp only [List.map_toArray, List.map_cons, List.map_nil]); first | done | rfl) ?_; (with_reducible refine (comm_Compare.calls _ _ l1 _ _ l0 t303 _ ?side1 ?side2 ?side3 ?side4 al.out).mono ?_); (case side1 | side3 => repeat (first | exact (Kd.C_below ad.out HB.out) | exact (Kd.C_below ab.out HB.out) | (with_reducible refine Kd.C_alloc ?_ _) | (with_reducible refine Kd.C_drewN ?_ _) | (with_reducible refine Kd.C_drew ?_))); (case side2 | side4 => first | exact ae.out | exact ac.out); rintro e w55 ⟨rfl, hb⟩; refine ⟨_, rfl, ?_⟩; replace HB := Aside0.mk (k211a.z HB.out hb rfl rfl rfl rfl); (try clear hb); (try clear aa); (try clear hk); (try clear hi)) | (go_at_call 22; (with_reducible refine (whirligigref03_Same.calls ah _ _ l0 _ _ l1 t304 _ ?side1 ?side2 ?side3 ?side4 am.out).mono ?_); (case side1 | side3 => repeat (first | exact (Kd.C_below ab.out HB.out) | exact (Kd.C_below ad.out HB.out) | (with_reducible refine Kd.C_alloc ?_ _) | (with_reducible refine Kd.C_drewN ?_ _) | (with_reducible refine Kd.C_drew ?_))); (case side2 | side4 => first | exact ac.out | exact ae.out); rintro e w' ⟨rfl, ⟨nd, rfl⟩⟩) | (go_at_call 9; (with_reducible refine (whirligiglaw03_lives.calls ah  t307 _ A51.out).mono ?_); rintro e w56 ⟨rfl, hb⟩; replace HB := Aside0.mk (k211a.z HB.out hb rfl rfl rfl rfl); (try clear hb); (try clear aa); (try clear hk); (try clear hi)))
             go_ret
             exact ⟨by first | rfl | (simp [errW_none, errW_some] <;> rfl) | (simp [*, errW_none, errW_some] <;> rfl), by repeat (first | (with_reducible first | exact HB.out | apply below_alloc | apply pw_below_drewN | apply below_drew1) | exact HB.out)⟩
            ·rw [if_neg c50] at H
             have c50b0 : (t301 == 0) = false := beq_eq_false_iff_ne.mpr c50
             have c50b1 : (t301 != 0) = true := bne_iff_ne.mpr c50
             by_cases c57 : t302 < 0
             ·rw [if_pos c57] at H
              have c57b0 : decide (t302 < 0) = true := decide_eq_true c57
              clear c57
              replace H := Option.bind_eq_some_iff.mp H
              obtain ⟨t308, A580, H⟩ := H
              replace H : (some t308) = some r := H
              have A58 := Aside0.mk A580
              clear A580
              obtain rfl := Option.some.inj H
              go_wp2_with (first | ((with_reducible refine gate_callee (f := 23) rfl ?_); refine goesL_ (some 26) rfl rfl Try.func23 (by kernel_rfl) rfl #[.slice A0 l0.length c0, .slice A1 l1.length c1] rfl (by (try simp only [List.map_toArray, List.map_cons, List.map_nil]); first | done | rfl) ?_; (with_reducible refine (comm_Compare.calls _ _ l0 _ _ l1 t300 _ ?side1 ?side2 ?side3 ?side4 ai.out).mono ?_); (case side1 | side3 => repeat (first | exact (Kd.C_below ab.out HB.out) | exact (Kd.C_below ad.out HB.out) | (with_reducible refine Kd.C_alloc ?_ _) | (with_reducible refine Kd.C_drewN ?_ _) | (with_reducible refine Kd.C_drew ?_))); (case side2 | side4 => first | exact ac.out | exact ae.out); rintro e w59 ⟨rfl, hb⟩; refine ⟨_, rfl, ?_⟩; replace HB := Aside0.mk (k211a.z HB.out hb rfl rfl rfl rfl); (try clear hb); (try clear aa); (try clear hk); (try clear hi)) | ((with_reducible refine gate_callee (f := 23) rfl ?_); refine goesL_ (some 29) rfl rfl Try.func23 (by kernel_rfl) rfl #[.slice A1 l1.length c1, .slice A2 l2.length c2] rfl (by (try simp only [List.map_toArray, List.map_cons, List.map_nil]); first | done | rfl) ?_; (with_reducible refine (comm_Compare.calls _ _ l1 _ _ l2 t301 _ ?side1 ?side2 ?side3 ?side4 aj.out).mono ?_); (case side1 | side3 => repeat (first | exact (Kd.C_below ad.out HB.out) | exact (Kd.C_below af.out HB.out) | (with_reducible refine Kd.C_alloc ?_ _) | (with_reducible refine Kd.C_drewN ?_ _) | (with_reducible refine Kd.C_drew ?_))); (case side2 | side4 => first | exact ae.out | exact ag.out); rintro e w60 ⟨rfl, hb⟩; refine ⟨_, rfl, ?_⟩; replace HB := Aside0.mk (k211a.z HB.out hb rfl rfl rfl rfl); (try clear hb); (try clear aa); (try clear hk); (try clear hi)) | ((with_reducible refine gate_callee (f := 23) rfl ?_); refine goesL_ (some 32) rfl rfl Try.func23 (by kernel_rfl) rfl #[.slice A0 l0.length c0, .slice A2 l2.length c2] rfl (by (try simp only [List.map_toArray, List.map_cons, List.map_nil]); first | done | rfl) ?_; (with_reducible refine (comm_Compare.calls _ _ l0 _ _ l2 t302 _ ?side1 ?side2 ?side3 ?side4 ak.out).mono ?_); (case side1 | side3 => repeat (first | exact (Kd.C_below ab.out HB.out) | exact (Kd.C_below af.out HB.out) | (with_reducible refine Kd.C_alloc ?_ _) | (with_reducible refine Kd.C_drewN ?_ _) | (with_reducible refine Kd.C_drew ?_))); (case side2 | side4 => first | exact ac.out | exact ag.out); rintro e w61 ⟨rfl, hb⟩; refine ⟨_, rfl, ?_⟩; replace HB := Aside0.mk (k211a.z HB.out hb rfl rfl rfl rfl); (try clear hb); (try clear aa); (try clear hk); (try clear hi)) | ((with_reducible refine gate_callee (f := 23) rfl ?_); refine goesL_ (some 35) rfl rfl Try.func23 (by kernel_rfl) rfl #[.slice A1 l1.length c1, .slice A0 l0.length c0] rfl (by (try simp only [List.map_toArray, List.map_cons, List.map_nil]); first | done | rfl) ?_; (with_reducible refine (comm_Compare.calls _ _ l1 _ _ l0 t303 _ ?side1 ?side2 ?side3 ?side4 al.out).mono ?_); (case side1 | side3 => repeat (first | exact (Kd.C_below ad.out HB.out) | exact (Kd.C_below ab.out HB.out) | (with_reducible refine Kd.C_alloc ?_ _) | (with_reducible refine Kd.C_drewN ?_ _) | (with_reducible refine Kd.C_drew ?_))); (case side2 | side4 => first | exact ae.out | exact ac.out); rintro e w62 ⟨rfl, hb⟩; refine ⟨_, rfl, ?_⟩; replace HB := Aside0.mk (k211a.z HB.out hb rfl rfl rfl rfl); (try clear hb); (try clear aa); (try clear hk); (try clear hi)) | (go_at_call 22; (with_reducible refine (whirligigref03_Same.calls ah _ _ l0 _ _ l1 t304 _ ?side1 ?side2 ?side3 ?side4 am.out).mono ?_); (case side1 | side3 => repeat (first | exact (Kd.C_below ab.out HB.out) | exact (Kd.C_below ad.out HB.out) | (with_reducible refine Kd.C_alloc ?_ _) | (with_reducible refine Kd.C_drewN ?_ _) | (with_reducible refine Kd.C_drew ?_))); (case side2 | side4 => first | exact ac.out | exact ae.out); rintro e w' ⟨rfl, ⟨nd, rfl⟩⟩) | (go_at_call 9; (with_reducible refine (whirligiglaw03_lives.calls ah  t308 _ A58.out).mono ?_); rintro e w63 ⟨rfl, hb⟩; replace HB := Aside0.mk (k211a.z HB.out hb rfl rfl rfl rfl); (try clear hb); (try clear aa); (try clear hk); (try clear hi)))
              go_ret
              exact ⟨by first | rfl | (simp [errW_none, errW_some] <;> rfl) | (simp [*, errW_none, errW_some] <;> rfl), by repeat (first | (with_reducible first | exact HB.out | apply below_alloc | apply pw_below_drewN | apply below_drew1) | exact HB.out)⟩
             ·rw [if_neg c57] at H
              have c57b0 : decide (t302 < 0) = false := decide_eq_false c57
              clear c57
              obtain rfl := Option.some.inj H
              go_wp2_with (first | ((with_reducible refine gate_callee (f := 23) rfl ?_); refine goesL_ (some 26) rfl rfl Try.func23 (by kernel_rfl) rfl #[.slice A0 l0.length c0, .slice A1 l1.length c1] rfl (by (try simp only [List.map_toArray, List.map_cons, List.map_nil]); first | done | rfl) ?_; (with_reducible refine (comm_Compare.calls _ _ l0 _ _ l1 t300 _ ?side1 ?side2 ?side3 ?side4 ai.out).mono ?_); (case side1 | side3 => repeat (first | exact (Kd.C_below ab.out HB.out) | exact (Kd.C_below ad.out HB.out) | (with_reducible refine Kd.C_alloc ?_ _) | (with_reducible refine Kd.C_drewN ?_ _) | (with_reducible refine Kd.C_drew ?_))); (case side2 | side4 => first | exact ac.out | exact ae.out); rintro e w64 ⟨rfl, hb⟩; refine ⟨_, rfl, ?_⟩; replace HB := Aside0.mk (k211a.z HB.out hb rfl rfl rfl rfl); (try clear hb); (try clear aa); (try clear hk); (try clear hi)) | ((with_reducible refine gate_callee (f := 23) rfl ?_); refine goesL_ (some 29) rfl rfl Try.func23 (by kernel_rfl) rfl #[.slice A1 l1.length c1, .slice A2 l2.length c2] rfl (by (try simp only [List.map_toArray, List.map_cons, List.map_nil]); first | done | rfl) ?_; (with_reducible refine (comm_Compare.calls _ _ l1 _ _ l2 t301 _ ?side1 ?side2 ?side3 ?side4 aj.out).mono ?_); (case side1 | side3 => repeat (first | exact (Kd.C_below ad.out HB.out) | exact (Kd.C_below af.out HB.out) | (with_reducible refine Kd.C_alloc ?_ _) | (with_reducible refine Kd.C_drewN ?_ _) | (with_reducible refine Kd.C_drew ?_))); (case side2 | side4 => first | exact ae.out | exact ag.out); rintro e w65 ⟨rfl, hb⟩; refine ⟨_, rfl, ?_⟩; replace HB := Aside0.mk (k211a.z HB.out hb rfl rfl rfl rfl); (try clear hb); (try clear aa); (try clear hk); (try clear hi)) | ((with_reducible refine gate_callee (f := 23) rfl ?_); refine goesL_ (some 32) rfl rfl Try.func23 (by kernel_rfl) rfl #[.slice A0 l0.length c0, .slice A2 l2.length c2] rfl (by (try simp only [List.map_toArray, List.map_cons, List.map_nil]); first | done | rfl) ?_; (with_reducible refine (comm_Compare.calls _ _ l0 _ _ l2 t302 _ ?side1 ?side2 ?side3 ?side4 ak.out).mono ?_); (case side1 | side3 => repeat (first | exact (Kd.C_below ab.out HB.out) | exact (Kd.C_below af.out HB.out) | (with_reducible refine Kd.C_alloc ?_ _) | (with_reducible refine Kd.C_drewN ?_ _) | (with_reducible refine Kd.C_drew ?_))); (case side2 | side4 => first | exact ac.out | exact ag.out); rintro e w66 ⟨rfl, hb⟩; refine ⟨_, rfl, ?_⟩; replace HB := Aside0.mk (k211a.z HB.out hb rfl rfl rfl rfl); (try clear hb); (try clear aa); (try clear hk); (try clear hi)) | ((with_reducible refine gate_callee (f := 23) rfl ?_); refine goesL_ (some 35) rfl rfl Try.func23 (by kernel_rfl) rfl #[.slice A1 l1.length c1, .slice A0 l0.length c0] rfl (by (try simp only [List.map_toArray, List.map_cons, List.map_nil]); first | done | rfl) ?_; (with_reducible refine (comm_Compare.calls _ _ l1 _ _ l0 t303 _ ?side1 ?side2 ?side3 ?side4 al.out).mono ?_); (case side1 | side3 => repeat (first | exact (Kd.C_below ad.out HB.out) | exact (Kd.C_below ab.out HB.out) | (with_reducible refine Kd.C_alloc ?_ _) | (with_reducible refine Kd.C_drewN ?_ _) | (with_reducible refine Kd.C_drew ?_))); (case side2 | side4 => first | exact ae.out | exact ac.out); rintro e w67 ⟨rfl, hb⟩; refine ⟨_, rfl, ?_⟩; replace HB := Aside0.mk (k211a.z HB.out hb rfl rfl rfl rfl); (try clear hb); (try clear aa); (try clear hk); (try clear hi)) | (go_at_call 22; (with_reducible refine (whirligigref03_Same.calls ah _ _ l0 _ _ l1 t304 _ ?side1 ?side2 ?side3 ?side4 am.out).mono ?_); (case side1 | side3 => repeat (first | exact (Kd.C_below ab.out HB.out) | exact (Kd.C_below ad.out HB.out) | (with_reducible refine Kd.C_alloc ?_ _) | (with_reducible refine Kd.C_drewN ?_ _) | (with_reducible refine Kd.C_drew ?_))); (case side2 | side4 => first | exact ac.out | exact ae.out); rintro e w' ⟨rfl, ⟨nd, rfl⟩⟩))
              go_ret
              exact ⟨by first | rfl | (simp [errW_none, errW_some] <;> rfl) | (simp [*, errW_none, errW_some] <;> rfl), by repeat (first | (with_reducible first | exact HB.out | apply below_alloc | apply pw_below_drewN | apply below_drew1) | exact HB.out)⟩
           ·rw [if_neg c49] at H
            have c49b0 : (t300 == 0) = false := beq_eq_false_iff_ne.mpr c49
            try (have ls2 := c19b0; rw [c49b0] at ls2; simp at ls2)
            have c49b1 : (t300 != 0) = true := bne_iff_ne.mpr c49
            by_cases c68 : t302 < 0
            ·rw [if_pos c68] at H
             have c68b0 : decide (t302 < 0) = true := decide_eq_true c68
             clear c68
             replace H := Option.bind_eq_some_iff.mp H
             obtain ⟨t309, A690, H⟩ := H
             replace H : (some t309) = some r := H
             have A69 := Aside0.mk A690
             clear A690
             obtain rfl := Option.some.inj H
             go_wp2_with (first | ((with_reducible refine gate_callee (f := 23) rfl ?_); refine goesL_ (some 26) rfl rfl Try.func23 (by kernel_rfl) rfl #[.slice A0 l0.length c0, .slice A1 l1.length c1] rfl (by (try simp only [List.map_toArray, List.map_cons, List.map_nil]); first | done | rfl) ?_; (with_reducible refine (comm_Compare.calls _ _ l0 _ _ l1 t300 _ ?side1 ?side2 ?side3 ?side4 ai.out).mono ?_); (case side1 | side3 => repeat (first | exact (Kd.C_below ab.out HB.out) | exact (Kd.C_below ad.out HB.out) | (with_reducible refine Kd.C_alloc ?_ _) | (with_reducible refine Kd.C_drewN ?_ _) | (with_reducible refine Kd.C_drew ?_))); (case side2 | side4 => first | exact ac.out | exact ae.out); rintro e w70 ⟨rfl, hb⟩; refine ⟨_, rfl, ?_⟩; replace HB := Aside0.mk (k211a.z HB.out hb rfl rfl rfl rfl); (try clear hb); (try clear aa); (try clear hk); (try clear hi)) | ((with_reducible refine gate_callee (f := 23) rfl ?_); refine goesL_ (some 29) rfl rfl Try.func23 (by kernel_rfl) rfl #[.slice A1 l1.length c1, .slice A2 l2.length c2] rfl (by (try simp only [List.map_toArray, List.map_cons, List.map_nil]); first | done | rfl) ?_; (with_reducible refine (comm_Compare.calls _ _ l1 _ _ l2 t301 _ ?side1 ?side2 ?side3 ?side4 aj.out).mono ?_); (case side1 | side3 => repeat (first | exact (Kd.C_below ad.out HB.out) | exact (Kd.C_below af.out HB.out) | (with_reducible refine Kd.C_alloc ?_ _) | (with_reducible refine Kd.C_drewN ?_ _) | (with_reducible refine Kd.C_drew ?_))); (case side2 | side4 => first | exact ae.out | exact ag.out); rintro e w71 ⟨rfl, hb⟩; refine ⟨_, rfl, ?_⟩; replace HB := Aside0.mk (k211a.z HB.out hb rfl rfl rfl rfl); (try clear hb); (try clear aa); (try clear hk); (try clear hi)) | ((with_reducible refine gate_callee (f := 23) rfl ?_); refine goesL_ (some 32) rfl rfl Try.func23 (by kernel_rfl) rfl #[.slice A0 l0.length c0, .slice A2 l2.length c2] rfl (by (try simp only [List.map_toArray, List.map_cons, List.map_nil]); first | done | rfl) ?_; (with_reducible refine (comm_Compare.calls _ _ l0 _ _ l2 t302 _ ?side1 ?side2 ?side3 ?side4 ak.out).mono ?_); (case side1 | side3 => repeat (first | exact (Kd.C_below ab.out HB.out) | exact (Kd.C_below af.out HB.out) | (with_reducible refine Kd.C_alloc ?_ _) | (with_reducible refine Kd.C_drewN ?_ _) | (with_reducible refine Kd.C_drew ?_))); (case side2 | side4 => first | exact ac.out | exact ag.out); rintro e w72 ⟨rfl, hb⟩; refine ⟨_, rfl, ?_⟩; replace HB := Aside0.mk (k211a.z HB.out hb rfl rfl rfl rfl); (try clear hb); (try clear aa); (try clear hk); (try clear hi)) | ((with_reducible refine gate_callee (f := 23) rfl ?_); refine goesL_ (some 35) rfl rfl Try.func23 (by kernel_rfl) rfl #[.slice A1 l1.length c1, .slice A0 l0.length c0] rfl (by (try simp only [List.map_toArray, List.map_cons, List.map_nil]); first | done | rfl) ?_; (with_reducible refine (comm_Compare.calls _ _ l1 _ _ l0 t303 _ ?side1 ?side2 ?side3 ?side4 al.out).mono ?_); (case side1 | side3 => repeat (first | exact (Kd.C_below ad.out HB.out) | exact (Kd.C_below ab.out HB.out) | (with_reducible refine Kd.C_alloc ?_ _) | (with_reducible refine Kd.C_drewN ?_ _) | (with_reducible refine Kd.C_drew ?_))); (case side2 | side4 => first | exact ae.out | exact ac.out); rintro e w73 ⟨rfl, hb⟩; refine ⟨_, rfl, ?_⟩; replace HB := Aside0.mk (k211a.z HB.out hb rfl rfl rfl rfl); (try clear hb); (try clear aa); (try clear hk); (try clear hi)) | (go_at_call 22; (with_reducible refine (whirligigref03_Same.calls ah _ _ l0 _ _ l1 t304 _ ?side1 ?side2 ?side3 ?side4 am.out).mono ?_); (case side1 | side3 => repeat (first | exact (Kd.C_below ab.out HB.out) | exact (Kd.C_below ad.out HB.out) | (with_reducible refine Kd.C_alloc ?_ _) | (with_reducible refine Kd.C_drewN ?_ _) | (with_reducible refine Kd.C_drew ?_))); (case side2 | side4 => first | exact ac.out | exact ae.out); rintro e w' ⟨rfl, ⟨nd, rfl⟩⟩) | (go_at_call 9; (with_reducible refine (whirligiglaw03_lives.calls ah  t309 _ A69.out).mono ?_); rintro e w74 ⟨rfl, hb⟩; replace HB := Aside0.mk (k211a.z HB.out hb rfl rfl rfl rfl); (try clear hb); (try clear aa); (try clear hk); (try clear hi)))
             go_ret
             exact ⟨by first | rfl | (simp [errW_none, errW_some] <;> rfl) | (simp [*, errW_none, errW_some] <;> rfl), by repeat (first | (with_reducible first | exact HB.out | apply below_alloc | apply pw_below_drewN | apply below_drew1) | exact HB.out)⟩
            ·rw [if_neg c68] at H
             have c68b0 : decide (t302 < 0) = false := decide_eq_false c68
             clear c68
             obtain rfl := Option.some.inj H
             go_wp2_with (first | ((with_reducible refine gate_callee (f := 23) rfl ?_); refine goesL_ (some 26) rfl rfl Try.func23 (by kernel_rfl) rfl #[.slice A0 l0.length c0, .slice A1 l1.length c1] rfl (by (try simp only [List.map_toArray, List.map_cons, List.map_nil]); first | done | rfl) ?_; (with_reducible refine (comm_Compare.calls _ _ l0 _ _ l1 t300 _ ?side1 ?side2 ?side3 ?side4 ai.out).mono ?_); (case side1 | side3 => repeat (first | exact (Kd.C_below ab.out HB.out) | exact (Kd.C_below ad.out HB.out) | (with_reducible refine Kd.C_alloc ?_ _) | (with_reducible refine Kd.C_drewN ?_ _) | (with_reducible refine Kd.C_drew ?_))); (case side2 | side4 => first | exact ac.out | exact ae.out); rintro e w75 ⟨rfl, hb⟩; refine ⟨_, rfl, ?_⟩; replace HB := Aside0.mk (k211a.z HB.out hb rfl rfl rfl rfl); (try clear hb); (try clear aa); (try clear hk); (try clear hi)) | ((with_reducible refine gate_callee (f := 23) rfl ?_); refine goesL_ (some 29) rfl rfl Try.func23 (by kernel_rfl) rfl #[.slice A1 l1.length c1, .slice A2 l2.length c2] rfl (by (try simp only [List.map_toArray, List.map_cons, List.map_nil]); first | done | rfl) ?_; (with_reducible refine (comm_Compare.calls _ _ l1 _ _ l2 t301 _ ?side1 ?side2 ?side3 ?side4 aj.out).mono ?_); (case side1 | side3 => repeat (first | exact (Kd.C_below ad.out HB.out) | exact (Kd.C_below af.out HB.out) | (with_reducible refine Kd.C_alloc ?_ _) | (with_reducible refine Kd.C_drewN ?_ _) | (with_reducible refine Kd.C_drew ?_))); (case side2 | side4 => first | exact ae.out | exact ag.out); rintro e w76 ⟨rfl, hb⟩; refine ⟨_, rfl, ?_⟩; replace HB := Aside0.mk (k211a.z HB.out hb rfl rfl rfl rfl); (try clear hb); (try clear aa); (try clear hk); (try clear hi)) | ((with_reducible refine gate_callee (f := 23) rfl ?_); refine goesL_ (some 32) rfl rfl Try.func23 (by kernel_rfl) rfl #[.slice A0 l0.length c0, .slice A2 l2.length c2] rfl (by (try simp only [List.map_toArray, List.map_cons, List.map_nil]); first | done | rfl) ?_; (with_reducible refine (comm_Compare.calls _ _ l0 _ _ l2 t302 _ ?side1 ?side2 ?side3 ?side4 ak.out).mono ?_); (case side1 | side3 => repeat (first | exact (Kd.C_below ab.out HB.out) | exact (Kd.C_below af.out HB.out) | (with_reducible refine Kd.C_alloc ?_ _) | (with_reducible refine Kd.C_drewN ?_ _) | (with_reducible refine Kd.C_drew ?_))); (case side2 | side4 => first | exact ac.out | exact ag.out); rintro e w77 ⟨rfl, hb⟩; refine ⟨_, rfl, ?_⟩; replace HB := Aside0.mk (k211a.z HB.out hb rfl rfl rfl rfl); (try clear hb); (try clear aa); (try clear hk); (try clear hi)) | ((with_reducible refine gate_callee (f := 23) rfl ?_); refine goesL_ (some 35) rfl rfl Try.func23 (by kernel_rfl) rfl #[.slice A1 l1.length c1, .slice A0 l0.length c0] rfl (by (try simp only [List.map_toArray, List.map_cons, List.map_nil]); first | done | rfl) ?_; (with_reducible refine (comm_Compare.calls _ _ l1 _ _ l0 t303 _ ?side1 ?side2 ?side3 ?side4 al.out).mono ?_); (case side1 | side3 => repeat (first | exact (Kd.C_below ad.out HB.out) | exact (Kd.C_below ab.out HB.out) | (with_reducible refine Kd.C_alloc ?_ _) | (with_reducible refine Kd.C_drewN ?_ _) | (with_reducible refine Kd.C_drew ?_))); (case side2 | side4 => first | exact ae.out | exact ac.out); rintro e w78 ⟨rfl, hb⟩; refine ⟨_, rfl, ?_⟩; replace HB := Aside0.mk (k211a.z HB.out hb rfl rfl rfl rfl); (try clear hb); (try clear aa); (try clear hk); (try clear hi)) | (go_at_call 22; (with_reducible refine (whirligigref03_Same.calls ah _ _ l0 _ _ l1 t304 _ ?side1 ?side2 ?side3 ?side4 am.out).mono ?_); (case side1 | side3 => repeat (first | exact (Kd.C_below ab.out HB.out) | exact (Kd.C_below ad.out HB.out) | (with_reducible refine Kd.C_alloc ?_ _) | (with_reducible refine Kd.C_drewN ?_ _) | (with_reducible refine Kd.C_drew ?_))); (case side2 | side4 => first | exact ac.out | exact ae.out); rintro e w' ⟨rfl, ⟨nd, rfl⟩⟩))
             go_ret
             exact ⟨by first | rfl | (simp [errW_none, errW_some] <;> rfl) | (simp [*, errW_none, errW_some] <;> rfl), by repeat (first | (with_reducible first | exact HB.out | apply below_alloc | apply pw_below_drewN | apply below_drew1) | exact HB.out)⟩
          ·rw [if_neg c48] at H
           have c48b0 : decide (t302 ≤ 0) = false := decide_eq_false c48
           clear c48
           obtain rfl := Option.some.inj H
           go_wp2_with (first | ((with_reducible refine gate_callee (f := 23) rfl ?_); refine goesL_ (some 26) rfl rfl Try.func23 (by kernel_rfl) rfl #[.slice A0 l0.length c0, .slice A1 l1.length c1] rfl (by (try simp only [List.map_toArray, List.map_cons, List.map_nil]); first | done | rfl) ?_; (with_reducible refine (comm_Compare.calls _ _ l0 _ _ l1 t300 _ ?side1 ?side2 ?side3 ?side4 ai.out).mono ?_); (case side1 | side3 => repeat (first | exact (Kd.C_below ab.out HB.out) | exact (Kd.C_below ad.out HB.out) | (with_reducible refine Kd.C_alloc ?_ _) | (with_reducible refine Kd.C_drewN ?_ _) | (with_reducible refine Kd.C_drew ?_))); (case side2 | side4 => first | exact ac.out | exact ae.out); rintro e w79 ⟨rfl, hb⟩; refine ⟨_, rfl, ?_⟩; replace HB := Aside0.mk (k211a.z HB.out hb rfl rfl rfl rfl); (try clear hb); (try clear aa); (try clear hk); (try clear hi)) | ((with_reducible refine gate_callee (f := 23) rfl ?_); refine goesL_ (some 29) rfl rfl Try.func23 (by kernel_rfl) rfl #[.slice A1 l1.length c1, .slice A2 l2.length c2] rfl (by (try simp only [List.map_toArray, List.map_cons, List.map_nil]); first | done | rfl) ?_; (with_reducible refine (comm_Compare.calls _ _ l1 _ _ l2 t301 _ ?side1 ?side2 ?side3 ?side4 aj.out).mono ?_); (case side1 | side3 => repeat (first | exact (Kd.C_below ad.out HB.out) | exact (Kd.C_below af.out HB.out) | (with_reducible refine Kd.C_alloc ?_ _) | (with_reducible refine Kd.C_drewN ?_ _) | (with_reducible refine Kd.C_drew ?_))); (case side2 | side4 => first | exact ae.out | exact ag.out); rintro e w80 ⟨rfl, hb⟩; refine ⟨_, rfl, ?_⟩; replace HB := Aside0.mk (k211a.z HB.out hb rfl rfl rfl rfl); (try clear hb); (try clear aa); (try clear hk); (try clear hi)) | ((with_reducible refine gate_callee (f := 23) rfl ?_); refine goesL_ (some 32) rfl rfl Try.func23 (by kernel_rfl) rfl #[.slice A0 l0.length c0, .slice A2 l2.length c2] rfl (by (try simp only [List.map_toArray, List.map_cons, List.map_nil]); first | done | rfl) ?_; (with_reducible refine (comm_Compare.calls _ _ l0 _ _ l2 t302 _ ?side1 ?side2 ?side3 ?side4 ak.out).mono ?_); (case side1 | side3 => repeat (first | exact (Kd.C_below ab.out HB.out) | exact (Kd.C_below af.out HB.out) | (with_reducible refine Kd.C_alloc ?_ _) | (with_reducible refine Kd.C_drewN ?_ _) | (with_reducible refine Kd.C_drew ?_))); (case side2 | side4 => first | exact ac.out | exact ag.out); rintro e w81 ⟨rfl, hb⟩; refine ⟨_, rfl, ?_⟩; replace HB := Aside0.mk (k211a.z HB.out hb rfl rfl rfl rfl); (try clear hb); (try clear aa); (try clear hk); (try clear hi)) | ((with_reducible refine gate_callee (f := 23) rfl ?_); refine goesL_ (some 35) rfl rfl Try.func23 (by kernel_rfl) rfl #[.slice A1 l1.length c1, .slice A0 l0.length c0] rfl (by (try simp only [List.map_toArray, List.map_cons, List.map_nil]); first | done | rfl) ?_; (with_reducible refine (comm_Compare.calls _ _ l1 _ _ l0 t303 _ ?side1 ?side2 ?side3 ?side4 al.out).mono ?_); (case side1 | side3 => repeat (first | exact (Kd.C_below ad.out HB.out) | exact (Kd.C_below ab.out HB.out) | (with_reducible refine Kd.C_alloc ?_ _) | (with_reducible refine Kd.C_drewN ?_ _) | (with_reducible refine Kd.C_drew ?_))); (case side2 | side4 => first | exact ae.out | exact ac.out); rintro e w82 ⟨rfl, hb⟩; refine ⟨_, rfl, ?_⟩; replace HB := Aside0.mk (k211a.z HB.out hb rfl rfl rfl rfl); (try clear hb); (try clear aa); (try clear hk); (try clear hi)) | (go_at_call 22; (with_reducible refine (whirligigref03_Same.calls ah _ _ l0 _ _ l1 t304 _ ?side1 ?side2 ?side3 ?side4 am.out).mono ?_); (case side1 | side3 => repeat (first | exact (Kd.C_below ab.out HB.out) | exact (Kd.C_below ad.out HB.out) | (with_reducible refine Kd.C_alloc ?_ _) | (with_reducible refine Kd.C_drewN ?_ _) | (with_reducible refine Kd.C_drew ?_))); (case side2 | side4 => first | exact ac.out | exact ae.out); rintro e w' ⟨rfl, ⟨nd, rfl⟩⟩))
           go_ret
           exact ⟨by first | rfl | (simp [errW_none, errW_some] <;> rfl) | (simp [*, errW_none, errW_some] <;> rfl), by repeat (first | (with_reducible first | exact HB.out | apply below_alloc | apply pw_below_drewN | apply below_drew1) | exact HB.out)⟩
    ·rw [if_neg c17] at H
     have c17b0 : (t303 == (wrap64 (-t300))) = false := beq_eq_false_iff_ne.mpr c17
     have c17b1 : (t303 != (wrap64 (-t300))) = true := bne_iff_ne.mpr c17
     obtain rfl := Option.some.inj H
     go_wp2_with (first | ((with_reducible refine gate_callee (f := 23) rfl ?_); refine goesL_ (some 26) rfl rfl Try.func23 (by kernel_rfl) rfl #[.slice A0 l0.length c0, .slice A1 l1.length c1] rfl (by (try simp only [List.map_toArray, List.map_cons, List.map_nil]); first | done | rfl) ?_; (with_reducible refine (comm_Compare.calls _ _ l0 _ _ l1 t300 _ ?side1 ?side2 ?side3 ?side4 ai.out).mono ?_); (case side1 | side3 => repeat (first | exact (Kd.C_below ab.out HB.out) | exact (Kd.C_below ad.out HB.out) | (with_reducible refine Kd.C_alloc ?_ _) | (with_reducible refine Kd.C_drewN ?_ _) | (with_reducible refine Kd.C_drew ?_))); (case side2 | side4 => first | exact ac.out | exact ae.out); rintro e w83 ⟨rfl, hb⟩; refine ⟨_, rfl, ?_⟩; replace HB := Aside0.mk (k211a.z HB.out hb rfl rfl rfl rfl); (try clear hb); (try clear aa); (try clear hk); (try clear hi)) | ((with_reducible refine gate_callee (f := 23) rfl ?_); refine goesL_ (some 29) rfl rfl Try.func23 (by kernel_rfl) rfl #[.slice A1 l1.length c1, .slice A2 l2.length c2] rfl (by (try simp only [List.map_toArray, List.map_cons, List.map_nil]); first | done | rfl) ?_; (with_reducible refine (comm_Compare.calls _ _ l1 _ _ l2 t301 _ ?side1 ?side2 ?side3 ?side4 aj.out).mono ?_); (case side1 | side3 => repeat (first | exact (Kd.C_below ad.out HB.out) | exact (Kd.C_below af.out HB.out) | (with_reducible refine Kd.C_alloc ?_ _) | (with_reducible refine Kd.C_drewN ?_ _) | (with_reducible refine Kd.C_drew ?_))); (case side2 | side4 => first | exact ae.out | exact ag.out); rintro e w84 ⟨rfl, hb⟩; refine ⟨_, rfl, ?_⟩; replace HB := Aside0.mk (k211a.z HB.out hb rfl rfl rfl rfl); (try clear hb); (try clear aa); (try clear hk); (try clear hi)) | ((with_reducible refine gate_callee (f := 23) rfl ?_); refine goesL_ (some 32) rfl rfl Try.func23 (by kernel_rfl) rfl #[.slice A0 l0.length c0, .slice A2 l2.length c2] rfl (by (try simp only [List.map_toArray, List.map_cons, List.map_nil]); first | done | rfl) ?_; (with_reducible refine (comm_Compare.calls _ _ l0 _ _ l2 t302 _ ?side1 ?side2 ?side3 ?side4 ak.out).mono ?_); (case side1 | side3 => repeat (first | exact (Kd.C_below ab.out HB.out) | exact (Kd.C_below af.out HB.out) | (with_reducible refine Kd.C_alloc ?_ _) | (with_reducible refine Kd.C_drewN ?_ _) | (with_reducible refine Kd.C_drew ?_))); (case side2 | side4 => first | exact ac.out | exact ag.out); rintro e w85 ⟨rfl, hb⟩; refine ⟨_, rfl, ?_⟩; replace HB := Aside0.mk (k211a.z HB.out hb rfl rfl rfl rfl); (try clear hb); (try clear aa); (try clear hk); (try clear hi)) | ((with_reducible refine gate_callee (f := 23) rfl ?_); refine goesL_ (some 35) rfl rfl Try.func23 (by kernel_rfl) rfl #[.slice A1 l1.length c1, .slice A0 l0.length c0] rfl (by (try simp only [List.map_toArray, List.map_cons, List.map_nil]); first | done | rfl) ?_; (with_reducible refine (comm_Compare.calls _ _ l1 _ _ l0 t303 _ ?side1 ?side2 ?side3 ?side4 al.out).mono ?_); (case side1 | side3 => repeat (first | exact (Kd.C_below ad.out HB.out) | exact (Kd.C_below ab.out HB.out) | (with_reducible refine Kd.C_alloc ?_ _) | (with_reducible refine Kd.C_drewN ?_ _) | (with_reducible refine Kd.C_drew ?_))); (case side2 | side4 => first | exact ae.out | exact ac.out); rintro e w86 ⟨rfl, hb⟩; refine ⟨_, rfl, ?_⟩; replace HB := Aside0.mk (k211a.z HB.out hb rfl rfl rfl rfl); (try clear hb); (try clear aa); (try clear hk); (try clear hi)))
     go_ret
     exact ⟨by first | rfl | (simp [errW_none, errW_some] <;> rfl) | (simp [*, errW_none, errW_some] <;> rfl), by repeat (first | (with_reducible first | exact HB.out | apply below_alloc | apply pw_below_drewN | apply below_drew1) | exact HB.out)⟩

end Go.Proofs.Ytikjfonedddlpaa.P

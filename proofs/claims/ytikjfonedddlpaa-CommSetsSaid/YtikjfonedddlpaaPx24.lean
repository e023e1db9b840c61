/- Printed by this session's own program (wip/tools/pr.py) out of the translation: functions of the program as plain Lean functions, and that the program's calls come to what these say. -/
import Derived.Test.YtikjfonedddlpaaPx0
import Derived.Test.YtikjfonedddlpaaPx4
import Derived.Test.YtikjfonedddlpaaPx5
import Derived.Test.YtikjfonedddlpaaPx9
import Derived.Test.YtikjfonedddlpaaPx14
import Derived.Test.YtikjfonedddlpaaPx15
import Derived.Test.YtikjfonedddlpaaPx16
import Derived.Test.YtikjfonedddlpaaPx21
import Derived.Test.YtikjfonedddlpaaPx22
import Derived.Test.YtikjfonedddlpaaPx23
namespace Go.Proofs.Ytikjfonedddlpaa.P
open Go.RowKit Go.Proofs.YtikjfonedddlpaaW.PrintWords Go.Proofs.YtikjfonedddlpaaW.PrintLast Go.Proofs.YtikjfonedddlpaaW.PrintMore
attribute [local go_sem] max2_int min2_int max_two min_two max_three min_three max_four min_four   -- for this text's walks alone
set_option linter.unusedVariables false
set_option linter.unusedSimpArgs false

/-! ### whirligiglaw03_CommSets: function 6 -/
def whirligiglaw03_CommSets.j0 : Nat → List (S23) → List (S23) → Bool → Int → Int → Option (Bool)
  | 0, _, _, _, _, _ => none
  | k + 1, x0, x1, x15, x322000, x322001 => if x15 = true then ((whirligiglaw03_lives.f k).bind fun t324 => (some t324)) else ((whirligigref03_Set.f k x0).bind fun t325 => ((comm_Set.f k x0).bind fun t326 => (if (t326 == t325) = true then ((comm_Has.f k x0 x322000 x322001).bind fun t327 => (if t325 = true then ((whirligigref03_In.f k x0 x322000 x322001).bind fun t328 => (if (t327 == t328) = true then ((comm_Texts.f k x0).bind fun t329 => ((whirligigref03_Texts.f k x0).bind fun t330 => (if t329.toList = t330.toList then ((comm_Compare.f x0 x1).bind fun t331 => ((whirligigref03_Compare.f k x0 x1).bind fun t332 => (if t331 = t332 then ((whirligiglaw03_lives.f k).bind fun t333 => (some t333)) else (some false)))) else (some false)))) else (some false))) else (if (t327 == false) = true then ((comm_Texts.f k x0).bind fun t334 => ((whirligigref03_Texts.f k x0).bind fun t335 => (if t334.toList = t335.toList then ((comm_Compare.f x0 x1).bind fun t336 => ((whirligigref03_Compare.f k x0 x1).bind fun t337 => (if t336 = t337 then ((whirligiglaw03_lives.f k).bind fun t338 => (some t338)) else (some false)))) else (some false)))) else (some false)))) else (some false))))
def whirligiglaw03_CommSets.f (k : Nat) (l0 : List (S23)) (l1 : List (S23)) (a2_0 : Int) (a2_1 : Int) : Option (Bool) := (whirligiglaw03_few.f l0).bind fun t322 => (if t322 = true then ((whirligiglaw03_few.f l1).bind fun t323 => (whirligiglaw03_CommSets.j0 k l0 l1 (!t323) a2_0 a2_1)) else (whirligiglaw03_CommSets.j0 k l0 l1 true a2_0 a2_1))
theorem whirligiglaw03_CommSets.mono_l : ∀ k, (∀ y0 y1 y2 y3 y4, LeO (whirligiglaw03_CommSets.j0 k y0 y1 y2 y3 y4) (whirligiglaw03_CommSets.j0 (k + 1) y0 y1 y2 y3 y4))
  | 0 => fun _ _ _ _ _ r h => by simp [whirligiglaw03_CommSets.j0] at h
  | k + 1 => by
    have ih0 := whirligiglaw03_CommSets.mono_l k
    · intro y0 y1 y2 y3 y4
      unfold whirligiglaw03_CommSets.j0
      repeat' first
      | (with_reducible exact ih0 _ _ _ _ _)
      | (with_reducible exact comm_Has.mono _ _ _ _)
      | (with_reducible exact comm_Set.mono _ _)
      | (with_reducible exact comm_Texts.mono _ _)
      | (with_reducible exact whirligiglaw03_lives.mono _)
      | (with_reducible exact whirligigref03_Compare.mono _ _ _)
      | (with_reducible exact whirligigref03_In.mono _ _ _ _)
      | (with_reducible exact whirligigref03_Set.mono _ _)
      | (with_reducible exact whirligigref03_Texts.mono _ _)
      | (with_reducible exact LeO.refl _)
      | (with_reducible exact LeO.none _)
      | (with_reducible refine LeO.ite ?_ ?_)
      | (with_reducible refine LeO.bind ?_ (fun _ => ?_))
      | exact ih0 _ _ _ _ _
      | exact comm_Has.mono _ _ _ _
      | exact comm_Set.mono _ _
      | exact comm_Texts.mono _ _
      | exact whirligiglaw03_lives.mono _
      | exact whirligigref03_Compare.mono _ _ _
      | exact whirligigref03_In.mono _ _ _ _
      | exact whirligigref03_Set.mono _ _
      | exact whirligigref03_Texts.mono _ _
      | exact LeO.none _
      | refine LeO.ite ?_ ?_
      | refine LeO.bind ?_ (fun _ => ?_)
theorem whirligiglaw03_CommSets.mono : ∀ a0 a1 a2 a3 k, LeO (whirligiglaw03_CommSets.f k a0 a1 a2 a3) (whirligiglaw03_CommSets.f (k + 1) a0 a1 a2 a3) := by
  intro a0 a1 a2 a3 k
  have ih0 := whirligiglaw03_CommSets.mono_l k
  unfold whirligiglaw03_CommSets.f
  repeat' first
      | (with_reducible exact ih0 _ _ _ _ _)
      | (with_reducible exact comm_Has.mono _ _ _ _)
      | (with_reducible exact comm_Set.mono _ _)
      | (with_reducible exact comm_Texts.mono _ _)
      | (with_reducible exact whirligiglaw03_lives.mono _)
      | (with_reducible exact whirligigref03_Compare.mono _ _ _)
      | (with_reducible exact whirligigref03_In.mono _ _ _ _)
      | (with_reducible exact whirligigref03_Set.mono _ _)
      | (with_reducible exact whirligigref03_Texts.mono _ _)
      | (with_reducible exact LeO.refl _)
      | (with_reducible exact LeO.none _)
      | (with_reducible refine LeO.ite ?_ ?_)
      | (with_reducible refine LeO.bind ?_ (fun _ => ?_))
      | exact ih0 _ _ _ _ _
      | exact comm_Has.mono _ _ _ _
      | exact comm_Set.mono _ _
      | exact comm_Texts.mono _ _
      | exact whirligiglaw03_lives.mono _
      | exact whirligigref03_Compare.mono _ _ _
      | exact whirligigref03_In.mono _ _ _ _
      | exact whirligigref03_Set.mono _ _
      | exact whirligigref03_Texts.mono _ _
      | exact LeO.none _
      | refine LeO.ite ?_ ?_
      | refine LeO.bind ?_ (fun _ => ?_)
theorem kf2df.q {w W W' : World} {g : Nat} {o : Obj} (h : w.heap[g]? = some o) (hb : Below W.heap.size W W') (e : W.heap = w.heap) : W'.heap[g]? = some o := blk_below (e ▸ h) hb
theorem kf2df.z {w0 w W W' : World} (h : Below w0.heap.size w0 w) (hb : Below W.heap.size W W') (e : W.heap = w.heap) (e1 : W.os = w.os) (e2 : W.tape = w.tape) (e3 : W.output = w.output) : Below w0.heap.size w0 W' := below_step ⟨e1.trans h.os, e2.trans h.tape, e3.trans h.output, e ▸ h.size, fun k hk => by rw [e]; exact h.block k hk⟩ hb
set_option maxHeartbeats 8000000 in
set_option maxRecDepth 100000 in
theorem whirligiglaw03_CommSets.calls (k : Nat) (A0 : Option Addr) (c0 : Nat) (l0 : List (S23)) (A1 : Option Addr) (c1 : Nat) (l1 : List (S23)) (ac : Int) (ad : Int) (r : Bool) (w : World) (hr0 : Kd.C k23 w A0 l0.length l0) (hc0 : l0.length ≤ c0) (hr1 : Kd.C k23 w A1 l1.length l1) (hc1 : l1.length ≤ c1) (h : whirligiglaw03_CommSets.f k l0 l1 ac ad = some r) :
  Calls Try.prog 6 #[.slice A0 l0.length c0, .slice A1 l1.length c1, .agg #[.int .i64 ac, .int .i64 ad]] w fun e w' => e = .returned (.bool r) ∧ Below w.heap.size w w' := by
 have hu23 := Try.underlying23
 have ae := Aside0.mk hr0
 have af := Aside0.mk hc0
 clear hr0 hc0
 have al := Aside0.mk hr1
 have am := Aside0.mk hc1
 clear hr1 hc1
 have HB := Aside0.mk (Below.refl w.heap.size w)
 have H := h
 unfold whirligiglaw03_CommSets.f at H
 clear h
 have HC4 := Aside0.mk H
 clear H
 go_enter Try.func6, Try.ntmps6
 go_upto_region 1 with (first | ((with_reducible refine gate_dst (N := 5) rfl ?_); refine box_event ?hg (N := 5) ?hd (cs := #[.int .i64 ac, .int .i64 ad]) (t := 23) ?hr ?_; (case hd => rfl); (case hg => rfl); (case hr => first | (go_simp; done) | (go_simp; rfl)); intro ab hg w5 hbox hb; have n0_ := Aside0.mk (kf2df.z HB.out hb rfl rfl rfl rfl); have n1_ := Aside0.mk (hbox); have n2_ := Aside0.mk ((by rw [hg]; exact (below_size (by repeat (first | (with_reducible first | exact HB.out | apply below_alloc | apply pw_below_drewN | apply below_drew1) | exact HB.out))) : w.heap.size ≤ ab)); have n3_ := Aside0.mk ((by rw [hg]; exact (below_size (by repeat (first | (with_reducible first | exact HB.out | apply below_alloc | apply pw_below_drewN | apply below_drew1) | exact HB.out))) : w.heap.size ≤ ab)); clear HB; have HB := n0_; have aa := n1_; have GW321 := n2_; have GE321 := n3_; clear n0_ n1_ n2_ n3_; clear hb hbox hg))
 (try simp only [Act.put, List.setIfInBounds_toArray, List.set_cons_zero, List.set_cons_succ])
 go_cut [15] (fun v15 wc => ∃ (kq : Nat) (x15_3 : Bool), v15 = .bool x15_3 ∧ Aside0 (whirligiglaw03_CommSets.j0 kq l0 l1 x15_3 ac ad = some r) ∧ Aside0 (kq ≤ k) ∧ Aside0 (wc.heap[ab]? = some (.cells #[.int .i64 ac, .int .i64 ad] 23 (0, 0))) ∧ Aside0 (Below w.heap.size w wc))
 case first =>
  have H := HC4.out
  clear HC4
  replace H := Option.bind_eq_some_iff.mp H
  obtain ⟨t322, A60, H⟩ := H
  (try dsimp only at H)
  have A6 := Aside0.mk A60
  clear A60
  by_cases c7 : t322 = true
  ·subst c7
   have H1 : ((whirligiglaw03_few.f l1).bind fun t323 => (whirligiglaw03_CommSets.j0 k l0 l1 (!t323) ac ad)) = some r := by rw [if_pos rfl] at H; exact H
   clear H
   have H := H1
   clear H1
   replace H := Option.bind_eq_some_iff.mp H
   obtain ⟨t323, A80, H⟩ := H
   replace H : (whirligiglaw03_CommSets.j0 k l0 l1 (!t323) ac ad) = some r := H
   have A8 := Aside0.mk A80
   clear A80
   have H' := Aside0.mk H
   clear H
   go_wp2_with (first | ((with_reducible refine gate_callee (f := 19) rfl ?_); refine goesL_ (some 9) rfl rfl Try.func19 (by kernel_rfl) rfl #[.slice A0 l0.length c0] rfl (by (try simp only [List.map_toArray, List.map_cons, List.map_nil]); first | done | rfl) ?_; (with_reducible refine (whirligiglaw03_few.calls _ _ l0 true _ ?side1 ?side2 A6.out).mono ?_); (case side1 => repeat (first | exact (Kd.C_below ae.out HB.out) | (with_reducible refine Kd.C_alloc ?_ _) | (with_reducible refine Kd.C_drewN ?_ _) | (with_reducible refine Kd.C_drew ?_))); (case side2 => exact af.out); rintro e w' ⟨rfl, ⟨nd, rfl⟩⟩; refine ⟨_, rfl, ?_⟩) | (go_at_call 19; (with_reducible refine (whirligiglaw03_few.calls _ _ l1 t323 _ ?side1 ?side2 A8.out).mono ?_); (case side1 => repeat (first | exact (Kd.C_below al.out (by repeat (first | (with_reducible first | exact HB.out | apply below_alloc | apply pw_below_drewN | apply below_drew1) | exact HB.out))) | (with_reducible refine Kd.C_alloc ?_ _) | (with_reducible refine Kd.C_drewN ?_ _) | (with_reducible refine Kd.C_drew ?_))); (case side2 => exact am.out); rintro e w' ⟨rfl, ⟨nd, rfl⟩⟩))
   go_meet
   case rel => exact ⟨_, (!t323), (by first | rfl | (simp; done) | (simp [*]; done)), H', ⟨by first | omega | exact Nat.le_refl _⟩, ⟨by (with_reducible repeat (first | refine blk_drewN ?_ _ | refine blk_drew ?_ | refine blk_alloc ?_ _)); exact aa.out⟩, ⟨by repeat (first | (with_reducible first | exact HB.out | apply below_alloc | apply pw_below_drewN | apply below_drew1) | exact HB.out)⟩⟩
  ·replace c7 := Bool.eq_false_iff.mpr c7
   subst c7
   have H1 : (whirligiglaw03_CommSets.j0 k l0 l1 true ac ad) = some r := by rw [if_neg (show ¬ (false = true) by decide)] at H; exact H
   clear H
   have H := H1
   clear H1
   have H' := Aside0.mk H
   clear H
   go_wp2_with (first | ((with_reducible refine gate_callee (f := 19) rfl ?_); refine goesL_ (some 9) rfl rfl Try.func19 (by kernel_rfl) rfl #[.slice A0 l0.length c0] rfl (by (try simp only [List.map_toArray, List.map_cons, List.map_nil]); first | done | rfl) ?_; (with_reducible refine (whirligiglaw03_few.calls _ _ l0 false _ ?side1 ?side2 A6.out).mono ?_); (case side1 => repeat (first | exact (Kd.C_below ae.out HB.out) | (with_reducible refine Kd.C_alloc ?_ _) | (with_reducible refine Kd.C_drewN ?_ _) | (with_reducible refine Kd.C_drew ?_))); (case side2 => exact af.out); rintro e w' ⟨rfl, ⟨nd, rfl⟩⟩; refine ⟨_, rfl, ?_⟩))
   go_meet
   case rel => exact ⟨_, (true), (by first | rfl | (simp; done) | (simp [*]; done)), H', ⟨by first | omega | exact Nat.le_refl _⟩, ⟨by (with_reducible repeat (first | refine blk_drewN ?_ _ | refine blk_drew ?_ | refine blk_alloc ?_ _)); exact aa.out⟩, ⟨by repeat (first | (with_reducible first | exact HB.out | apply below_alloc | apply pw_below_drewN | apply below_drew1) | exact HB.out)⟩⟩
 case rest =>
  clear HC4
  try clear c1
  try clear p2
  try clear c6
  try clear c7
  obtain ⟨kq, x15_3, rfl, HA, HJ3, aa, HB⟩ := hcut
  cases kq with
  | zero => exact absurd HA.out (by simp [whirligiglaw03_CommSets.j0])
  | succ ah =>
   have H := HA.out
   clear HA
   simp only [whirligiglaw03_CommSets.j0] at H
   by_cases c9 : x15_3 = true
   ·subst c9
    have H1 : ((whirligiglaw03_lives.f ah).bind fun t324 => (some t324)) = some r := by rw [if_pos rfl] at H; exact H
    clear H
    have H := H1
    clear H1
    replace H := Option.bind_eq_some_iff.mp H
    obtain ⟨t324, A100, H⟩ := H
    replace H : (some t324) = some r := H
    have A10 := Aside0.mk A100
    clear A100
    obtain rfl := Option.some.inj H
    go_wp2_with (first | ((with_reducible refine gate_callee (f := 9) rfl ?_); refine goesL_ (some 16) rfl rfl Try.func9 (by kernel_rfl) rfl #[] rfl (by (try simp only [List.map_toArray, List.map_cons, List.map_nil]); first | done | rfl) ?_; (with_reducible refine (whirligiglaw03_lives.calls ah  t324 _ A10.out).mono ?_); rintro e w11 ⟨rfl, hb⟩; refine ⟨_, rfl, ?_⟩; replace aa := Aside0.mk (kf2df.q aa.out hb rfl); replace HB := Aside0.mk (kf2df.z HB.out hb rfl rfl rfl rfl); (try clear hb); (try clear ag); (try clear hk); (try clear hi)))
    go_ret
    exact ⟨by first | rfl | (simp [errW_none, errW_some] <;> rfl) | (simp [*, errW_none, errW_some] <;> rfl), by repeat (first | (with_reducible first | exact HB.out | apply below_alloc | apply pw_below_drewN | apply below_drew1) | exact HB.out)⟩
   ·replace c9 := Bool.eq_false_iff.mpr c9
    subst c9
    have H1 := H
    rw [if_neg (show ¬ (false = true) by decide)] at H1
    clear H
    have H := H1
    clear H1
    replace H := Option.bind_eq_some_iff.mp H
    obtain ⟨t325, A120, H⟩ := H
    (try dsimp only at H)
    have an := Aside0.mk A120
    clear A120
    replace H := Option.bind_eq_some_iff.mp H
    obtain ⟨t326, A130, H⟩ := H
    (try dsimp only at H)
    have ao := Aside0.mk A130
    clear A130
    by_cases ai : (t326 == t325) = true
    ·rw [if_pos ai] at H
     have c14b0 : (t326 == t325) = true := ai
     (try (have c14b1 : decide (t326 = t325) = true := by simpa using ai))
     (try (have c14b2 : (t326 == t325) = true := by simpa using ai))
     clear ai
     replace H := Option.bind_eq_some_iff.mp H
     obtain ⟨t327, A150, H⟩ := H
     (try dsimp only at H)
     have ap := Aside0.mk A150
     clear A150
     by_cases c16 : t325 = true
     ·subst c16
      have H1 := H
      rw [if_pos rfl] at H1
      clear H
      have H := H1
      clear H1
      replace H := Option.bind_eq_some_iff.mp H
      obtain ⟨t328, A170, H⟩ := H
      (try dsimp only at H)
      have A17 := Aside0.mk A170
      clear A170
      by_cases aj : (t327 == t328) = true
      ·rw [if_pos aj] at H
       have c18b0 : (t327 == t328) = true := aj
       (try (have c18b1 : decide (t327 = t328) = true := by simpa using aj))
       (try (have c18b2 : (t327 == t328) = true := by simpa using aj))
       clear aj
       replace H := Option.bind_eq_some_iff.mp H
       obtain ⟨t329, A190, H⟩ := H
       (try dsimp only at H)
       have A19 := Aside0.mk A190
       clear A190
       replace H := Option.bind_eq_some_iff.mp H
       obtain ⟨t330, A200, H⟩ := H
       (try dsimp only at H)
       have A20 := Aside0.mk A200
       clear A200
       by_cases c21 : t329.toList = t330.toList
       ·rw [if_pos c21] at H
        have c21b0 : (t329.toList == t330.toList) = true := beq_iff_eq.mpr c21
        have c21b1 : (t329.toList != t330.toList) = false := bne_eq_false_iff_eq.mpr c21
        clear c21
        replace H := Option.bind_eq_some_iff.mp H
        obtain ⟨t331, A220, H⟩ := H
        (try dsimp only at H)
        have A22 := Aside0.mk A220
        clear A220
        replace H := Option.bind_eq_some_iff.mp H
        obtain ⟨t332, A230, H⟩ := H
        (try dsimp only at H)
        have A23 := Aside0.mk A230
        clear A230
        by_cases c24 : t331 = t332
        ·rw [if_pos c24] at H
         have c24b0 : (t331 == t332) = true := beq_iff_eq.mpr c24
         have c24b1 : (t331 != t332) = false := bne_eq_false_iff_eq.mpr c24
         clear c24
         replace H := Option.bind_eq_some_iff.mp H
         obtain ⟨t333, A250, H⟩ := H
         replace H : (some t333) = some r := H
         have A25 := Aside0.mk A250
         clear A250
         obtain rfl := Option.some.inj H
         go_wp2_with (first | ((with_reducible refine gate_callee (f := 24) rfl ?_); refine goesL_ (some 18) rfl rfl Try.func24 (by kernel_rfl) rfl #[.slice A0 l0.length c0] rfl (by (try simp only [List.map_toArray, List.map_cons, List.map_nil]); first | done | rfl) ?_; (with_reducible refine (whirligigref03_Set.calls ah _ _ l0 true _ ?side1 ?side2 an.out).mono ?_); (case side1 => repeat (first | exact (Kd.C_below ae.out HB.out) | (with_reducible refine Kd.C_alloc ?_ _) | (with_reducible refine Kd.C_drewN ?_ _) | (with_reducible refine Kd.C_drew ?_))); (case side2 => exact af.out); rintro e w26 ⟨rfl, hb⟩; refine ⟨_, rfl, ?_⟩; replace aa := Aside0.mk (kf2df.q aa.out hb rfl); replace HB := Aside0.mk (kf2df.z HB.out hb rfl rfl rfl rfl); (try clear hb); (try clear ag); (try clear hk); (try clear hi)) | ((with_reducible refine gate_callee (f := 25) rfl ?_); refine goesL_ (some 20) rfl rfl Try.func25 (by kernel_rfl) rfl #[.slice A0 l0.length c0] rfl (by (try simp only [List.map_toArray, List.map_cons, List.map_nil]); first | done | rfl) ?_; (with_reducible refine (comm_Set.calls ah _ _ l0 t326 _ ?side1 ?side2 ao.out).mono ?_); (case side1 => repeat (first | exact (Kd.C_below ae.out HB.out) | (with_reducible refine Kd.C_alloc ?_ _) | (with_reducible refine Kd.C_drewN ?_ _) | (with_reducible refine Kd.C_drew ?_))); (case side2 => exact af.out); rintro e w27 ⟨rfl, hb⟩; refine ⟨_, rfl, ?_⟩; replace aa := Aside0.mk (kf2df.q aa.out hb rfl); replace HB := Aside0.mk (kf2df.z HB.out hb rfl rfl rfl rfl); (try clear hb); (try clear ag); (try clear hk); (try clear hi); have hcz28_0 : w27.cell? ⟨ab, 0, none⟩ = some (.int .i64 ac) := (blk_cell aa.out 0).trans rfl; have hcz28_1 : w27.cell? ⟨ab, 1, none⟩ = some (.int .i64 ad) := (blk_cell aa.out 1).trans rfl; have hfz28_0 := blk_frozen aa.out 0; have hfz28_1 := blk_frozen aa.out 1) | (go_at_call 26; (with_reducible refine (comm_Has.calls ah _ _ l0 ac ad t327 _ ?side1 ?side2 ap.out).mono ?_); (case side1 => repeat (first | exact (Kd.C_below ae.out HB.out) | (with_reducible refine Kd.C_alloc ?_ _) | (with_reducible refine Kd.C_drewN ?_ _) | (with_reducible refine Kd.C_drew ?_))); (case side2 => exact af.out); rintro e w29 ⟨rfl, hb⟩; replace aa := Aside0.mk (kf2df.q aa.out hb rfl); replace HB := Aside0.mk (kf2df.z HB.out hb rfl rfl rfl rfl); (try clear hb); (try clear ag); (try clear hk); (try clear hi); have hcz30_0 : w29.cell? ⟨ab, 0, none⟩ = some (.int .i64 ac) := (blk_cell aa.out 0).trans rfl; have hcz30_1 : w29.cell? ⟨ab, 1, none⟩ = some (.int .i64 ad) := (blk_cell aa.out 1).trans rfl; have hfz30_0 := blk_frozen aa.out 0; have hfz30_1 := blk_frozen aa.out 1) | (go_at_call 27; (with_reducible refine (whirligigref03_In.calls ah _ _ l0 ac ad t328 _ ?side1 ?side2 A17.out).mono ?_); (case side1 => repeat (first | exact (Kd.C_below ae.out HB.out) | (with_reducible refine Kd.C_alloc ?_ _) | (with_reducible refine Kd.C_drewN ?_ _) | (with_reducible refine Kd.C_drew ?_))); (case side2 => exact af.out); rintro e w31 ⟨rfl, hb⟩; replace aa := Aside0.mk (kf2df.q aa.out hb rfl); replace HB := Aside0.mk (kf2df.z HB.out hb rfl rfl rfl rfl); (try clear hb); (try clear ag); (try clear hk); (try clear hi)) | (go_at_call 28; (with_reducible refine (comm_Texts.calls ah _ _ l0 t329 _ ?side1 ?side2 A19.out).mono ?_); (case side1 => repeat (first | exact (Kd.C_below ae.out HB.out) | (with_reducible refine Kd.C_alloc ?_ _) | (with_reducible refine Kd.C_drewN ?_ _) | (with_reducible refine Kd.C_drew ?_))); (case side2 => exact af.out); rintro e w32 ⟨rfl, hb⟩; replace aa := Aside0.mk (kf2df.q aa.out hb rfl); replace HB := Aside0.mk (kf2df.z HB.out hb rfl rfl rfl rfl); (try clear hb); (try clear ag); (try clear hk); (try clear hi)) | (go_at_call 29; (with_reducible refine (whirligigref03_Texts.calls ah _ _ l0 t330 _ ?side1 ?side2 A20.out).mono ?_); (case side1 => repeat (first | exact (Kd.C_below ae.out HB.out) | (with_reducible refine Kd.C_alloc ?_ _) | (with_reducible refine Kd.C_drewN ?_ _) | (with_reducible refine Kd.C_drew ?_))); (case side2 => exact af.out); rintro e w33 ⟨rfl, hb⟩; replace aa := Aside0.mk (kf2df.q aa.out hb rfl); replace HB := Aside0.mk (kf2df.z HB.out hb rfl rfl rfl rfl); (try clear hb); (try clear ag); (try clear hk); (try clear hi)) | (go_at_call 23; (with_reducible refine (comm_Compare.calls _ _ l0 _ _ l1 t331 _ ?side1 ?side2 ?side3 ?side4 A22.out).mono ?_); (case side1 | side3 => repeat (first | exact (Kd.C_below ae.out HB.out) | exact (Kd.C_below al.out HB.out) | (with_reducible refine Kd.C_alloc ?_ _) | (with_reducible refine Kd.C_drewN ?_ _) | (with_reducible refine Kd.C_drew ?_))); (case side2 | side4 => first | exact af.out | exact am.out); rintro e w34 ⟨rfl, hb⟩; replace aa := Aside0.mk (kf2df.q aa.out hb rfl); replace HB := Aside0.mk (kf2df.z HB.out hb rfl rfl rfl rfl); (try clear hb); (try clear ag); (try clear hk); (try clear hi)) | (go_at_call 30; (with_reducible refine (whirligigref03_Compare.calls ah _ _ l0 _ _ l1 t332 _ ?side1 ?side2 ?side3 ?side4 A23.out).mono ?_); (case side1 | side3 => repeat (first | exact (Kd.C_below ae.out HB.out) | exact (Kd.C_below al.out HB.out) | (with_reducible refine Kd.C_alloc ?_ _) | (with_reducible refine Kd.C_drewN ?_ _) | (with_reducible refine Kd.C_drew ?_))); (case side2 | side4 => first | exact af.out | exact am.out); rintro e w35 ⟨rfl, hb⟩; replace aa := Aside0.mk (kf2df.q aa.out hb rfl); replace HB := Aside0.mk (kf2df.z HB.out hb rfl rfl rfl rfl); (try clear hb); (try clear ag); (try clear hk); (try clear hi)) | (go_at_call 9; (with_reducible refine (whirligiglaw03_lives.calls ah  t333 _ A25.out).mono ?_); rintro e w36 ⟨rfl, hb⟩; replace aa := Aside0.mk (kf2df.q aa.out hb rfl); replace HB := Aside0.mk (kf2df.z HB.out hb rfl rfl rfl rfl); (try clear hb); (try clear ag); (try clear hk); (try clear hi)))
         go_ret
         exact ⟨by first | rfl | (simp [errW_none, errW_some] <;> rfl) | (simp [*, errW_none, errW_some] <;> rfl), by repeat (first | (with_reducible first | exact HB.out | apply below_alloc | apply pw_below_drewN | apply below_drew1) | exact HB.out)⟩
        ·rw [if_neg c24] at H
         have c24b0 : (t331 == t332) = false := beq_eq_false_iff_ne.mpr c24
         have c24b1 : (t331 != t332) = true := bne_iff_ne.mpr c24
         obtain rfl := Option.some.inj H
         go_wp2_with (first | ((with_reducible refine gate_callee (f := 24) rfl ?_); refine goesL_ (some 18) rfl rfl Try.func24 (by kernel_rfl) rfl #[.slice A0 l0.length c0] rfl (by (try simp only [List.map_toArray, List.map_cons, List.map_nil]); first | done | rfl) ?_; (with_reducible refine (whirligigref03_Set.calls ah _ _ l0 true _ ?side1 ?side2 an.out).mono ?_); (case side1 => repeat (first | exact (Kd.C_below ae.out HB.out) | (with_reducible refine Kd.C_alloc ?_ _) | (with_reducible refine Kd.C_drewN ?_ _) | (with_reducible refine Kd.C_drew ?_))); (case side2 => exact af.out); rintro e w37 ⟨rfl, hb⟩; refine ⟨_, rfl, ?_⟩; replace aa := Aside0.mk (kf2df.q aa.out hb rfl); replace HB := Aside0.mk (kf2df.z HB.out hb rfl rfl rfl rfl); (try clear hb); (try clear ag); (try clear hk); (try clear hi)) | ((with_reducible refine gate_callee (f := 25) rfl ?_); refine goesL_ (some 20) rfl rfl Try.func25 (by kernel_rfl) rfl #[.slice A0 l0.length c0] rfl (by (try simp only [List.map_toArray, List.map_cons, List.map_nil]); first | done | rfl) ?_; (with_reducible refine (comm_Set.calls ah _ _ l0 t326 _ ?side1 ?side2 ao.out).mono ?_); (case side1 => repeat (first | exact (Kd.C_below ae.out HB.out) | (with_reducible refine Kd.C_alloc ?_ _) | (with_reducible refine Kd.C_drewN ?_ _) | (with_reducible refine Kd.C_drew ?_))); (case side2 => exact af.out); rintro e w38 ⟨rfl, hb⟩; refine ⟨_, rfl, ?_⟩; replace aa := Aside0.mk (kf2df.q aa.out hb rfl); replace HB := Aside0.mk (kf2df.z HB.out hb rfl rfl rfl rfl); (try clear hb); (try clear ag); (try clear hk); (try clear hi); have hcz39_0 : w38.cell? ⟨ab, 0, none⟩ = some (.int .i64 ac) := (blk_cell aa.out 0).trans rfl; have hcz39_1 : w38.cell? ⟨ab, 1, none⟩ = some (.int .i64 ad) := (blk_cell aa.out 1).trans rfl; have hfz39_0 := blk_frozen aa.out 0; have hfz39_1 := blk_frozen aa.out 1) | (go_at_call 26; (with_reducible refine (comm_Has.calls ah _ _ l0 ac ad t327 _ ?side1 ?side2 ap.out).mono ?_); (case side1 => repeat (first | exact (Kd.C_below ae.out HB.out) | (with_reducible refine Kd.C_alloc ?_ _) | (with_reducible refine Kd.C_drewN ?_ _) | (with_reducible refine Kd.C_drew ?_))); (case side2 => exact af.out); rintro e w40 ⟨rfl, hb⟩; replace aa := Aside0.mk (kf2df.q aa.out hb rfl); replace HB := Aside0.mk (kf2df.z HB.out hb rfl rfl rfl rfl); (try clear hb); (try clear ag); (try clear hk); (try clear hi); have hcz41_0 : w40.cell? ⟨ab, 0, none⟩ = some (.int .i64 ac) := (blk_cell aa.out 0).trans rfl; have hcz41_1 : w40.cell? ⟨ab, 1, none⟩ = some (.int .i64 ad) := (blk_cell aa.out 1).trans rfl; have hfz41_0 := blk_frozen aa.out 0; have hfz41_1 := blk_frozen aa.out 1) | (go_at_call 27; (with_reducible refine (whirligigref03_In.calls ah _ _ l0 ac ad t328 _ ?side1 ?side2 A17.out).mono ?_); (case side1 => repeat (first | exact (Kd.C_below ae.out HB.out) | (with_reducible refine Kd.C_alloc ?_ _) | (with_reducible refine Kd.C_drewN ?_ _) | (with_reducible refine Kd.C_drew ?_))); (case side2 => exact af.out); rintro e w42 ⟨rfl, hb⟩; replace aa := Aside0.mk (kf2df.q aa.out hb rfl); replace HB := Aside0.mk (kf2df.z HB.out hb rfl rfl rfl rfl); (try clear hb); (try clear ag); (try clear hk); (try clear hi)) | (go_at_call 28; (with_reducible refine (comm_Texts.calls ah _ _ l0 t329 _ ?side1 ?side2 A19.out).mono ?_); (case side1 => repeat (first | exact (Kd.C_below ae.out HB.out) | (with_reducible refine Kd.C_alloc ?_ _) | (with_reducible refine Kd.C_drewN ?_ _) | (with_reducible refine Kd.C_drew ?_))); (case side2 => exact af.out); rintro e w43 ⟨rfl, hb⟩; replace aa := Aside0.mk (kf2df.q aa.out hb rfl); replace HB := Aside0.mk (kf2df.z HB.out hb rfl rfl rfl rfl); (try clear hb); (try clear ag); (try clear hk); (try clear hi)) | (go_at_call 29; (with_reducible refine (whirligigref03_Texts.calls ah _ _ l0 t330 _ ?side1 ?side2 A20.out).mono ?_); (case side1 => repeat (first | exact (Kd.C_below ae.out HB.out) | (with_reducible refine Kd.C_alloc ?_ _) | (with_reducible refine Kd.C_drewN ?_ _) | (with_reducible refine Kd.C_drew ?_))); (case side2 => exact af.out); rintro e w44 ⟨rfl, hb⟩; replace aa := Aside0.mk (kf2df.q aa.out hb rfl); replace HB := Aside0.mk (kf2df.z HB.out hb rfl rfl rfl rfl); (try clear hb); (try clear ag); (try clear hk); (try clear hi)) | (go_at_call 23; (with_reducible refine (comm_Compare.calls _ _ l0 _ _ l1 t331 _ ?side1 ?side2 ?side3 ?side4 A22.out).mono ?_); (case side1 | side3 => repeat (first | exact (Kd.C_below ae.out HB.out) | exact (Kd.C_below al.out HB.out) | (with_reducible refine Kd.C_alloc ?_ _) | (with_reducible refine Kd.C_drewN ?_ _) | (with_reducible refine Kd.C_drew ?_))); (case side2 | side4 => first | exact af.out | exact am.out); rintro e w45 ⟨rfl, hb⟩; replace aa := Aside0.mk (kf2df.q aa.out hb rfl); replace HB := Aside0.mk (kf2df.z HB.out hb rfl rfl rfl rfl); (try clear hb); (try clear ag); (try clear hk); (try clear hi)) | (go_at_call 30; (with_reducible refine (whirligigref03_Compare.calls ah _ _ l0 _ _ l1 t332 _ ?side1 ?side2 ?side3 ?side4 A23.out).mono ?_); (case side1 | side3 => repeat (first | exact (Kd.C_below ae.out HB.out) | exact (Kd.C_below al.out HB.out) | (with_reducible refine Kd.C_alloc ?_ _) | (with_reducible refine Kd.C_drewN ?_ _) | (with_reducible refine Kd.C_drew ?_))); (case side2 | side4 => first | exact af.out | exact am.out); rintro e w46 ⟨rfl, hb⟩; replace aa := Aside0.mk (kf2df.q aa.out hb rfl); replace HB := Aside0.mk (kf2df.z HB.out hb rfl rfl rfl rfl); (try clear hb); (try clear ag); (try clear hk); (try clear hi)))
         go_ret
         exact ⟨by first | rfl | (simp [errW_none, errW_some] <;> rfl) | (simp [*, errW_none, errW_some] <;> rfl), by repeat (first | (with_reducible first | exact HB.out | apply below_alloc | apply pw_below_drewN | apply below_drew1) | exact HB.out)⟩
       ·rw [if_neg c21] at H
        have c21b0 : (t329.toList == t330.toList) = false := beq_eq_false_iff_ne.mpr c21
        have c21b1 : (t329.toList != t330.toList) = true := bne_iff_ne.mpr c21
        obtain rfl := Option.some.inj H
        go_wp2_with (first | ((with_reducible refine gate_callee (f := 24) rfl ?_); refine goesL_ (some 18) rfl rfl Try.func24 (by kernel_rfl) rfl #[.slice A0 l0.length c0] rfl (by (try simp only [List.map_toArray, List.map_cons, List.map_nil]); first | done | rfl) ?_; (with_reducible refine (whirligigref03_Set.calls ah _ _ l0 true _ ?side1 ?side2 an.out).mono ?_); (case side1 => repeat (first | exact (Kd.C_below ae.out HB.out) | (with_reducible refine Kd.C_alloc ?_ _) | (with_reducible refine Kd.C_drewN ?_ _) | (with_reducible refine Kd.C_drew ?_))); (case side2 => exact af.out); rintro e w47 ⟨rfl, hb⟩; refine ⟨_, rfl, ?_⟩; replace aa := Aside0.mk (kf2df.q aa.out hb rfl); replace HB := Aside0.mk (kf2df.z HB.out hb rfl rfl rfl rfl); (try clear hb); (try clear ag); (try clear hk); (try clear hi)) | ((with_reducible refine gate_callee (f := 25) rfl ?_); refine goesL_ (some 20) rfl rfl Try.func25 (by kernel_rfl) rfl #[.slice A0 l0.length c0] rfl (by (try simp only [List.map_toArray, List.map_cons, List.map_nil]); first | done | rfl) ?_; (with_reducible refine (comm_Set.calls ah _ _ l0 t326 _ ?side1 ?side2 ao.out).mono ?_); (case side1 => repeat (first | exact (Kd.C_below ae.out HB.out) | (with_reducible refine Kd.C_alloc ?_ _) | (with_reducible refine Kd.C_drewN ?_ _) | (with_reducible refine Kd.C_drew ?_))); (case side2 => exact af.out); rintro e w48 ⟨rfl, hb⟩; refine ⟨_, rfl, ?_⟩; replace aa := Aside0.mk (kf2df.q aa.out hb rfl); replace HB := Aside0.mk (kf2df.z HB.out hb rfl rfl rfl rfl); (try clear hb); (try clear ag); (try clear hk); (try clear hi); have hcz49_0 : w48.cell? ⟨ab, 0, none⟩ = some (.int .i64 ac) := (blk_cell aa.out 0).trans rfl; have hcz49_1 : w48.cell? ⟨ab, 1, none⟩ = some (.int .i64 ad) := (blk_cell aa.out 1).trans rfl; have hfz49_0 := blk_frozen aa.out 0; have hfz49_1 := blk_frozen aa.out 1) | (go_at_call 26; (with_reducible refine (comm_Has.calls ah _ _ l0 ac ad t327 _ ?side1 ?side2 ap.out).mono ?_); (case side1 => repeat (first | exact (Kd.C_below ae.out HB.out) | (with_reducible refine Kd.C_alloc ?_ _) | (with_reducible refine Kd.C_drewN ?_ _) | (with_reducible refine Kd.C_drew ?_))); (case side2 => exact af.out); rintro e w50 ⟨rfl, hb⟩; replace aa := Aside0.mk (kf2df.q aa.out hb rfl); replace HB := Aside0.mk (kf2df.z HB.out hb rfl rfl rfl rfl); (try clear hb); (try clear ag); (try clear hk); (try clear hi); have hcz51_0 : w50.cell? ⟨ab, 0, none⟩ = some (.int .i64 ac) := (blk_cell aa.out 0).trans rfl; have hcz51_1 : w50.cell? ⟨ab, 1, none⟩ = some (.int .i64 ad) := (blk_cell aa.out 1).trans rfl; have hfz51_0 := blk_frozen aa.out 0; have hfz51_1 := blk_frozen aa.out 1) | (go_at_call 27; (with_reducible refine (whirligigref03_In.calls ah _ _ l0 ac ad t328 _ ?side1 ?side2 A17.out).mono ?_); (case side1 => repeat (first | exact (Kd.C_below ae.out HB.out) | (with_reducible refine Kd.C_alloc ?_ _) | (with_reducible refine Kd.C_drewN ?_ _) | (with_reducible refine Kd.C_drew ?_))); (case side2 => exact af.out); rintro e w52 ⟨rfl, hb⟩; replace aa := Aside0.mk (kf2df.q aa.out hb rfl); replace HB := Aside0.mk (kf2df.z HB.out hb rfl rfl rfl rfl); (try clear hb); (try clear ag); (try clear hk); (try clear hi)) | (go_at_call 28; (with_reducible refine (comm_Texts.calls ah _ _ l0 t329 _ ?side1 ?side2 A19.out).mono ?_); (case side1 => repeat (first | exact (Kd.C_below ae.out HB.out) | (with_reducible refine Kd.C_alloc ?_ _) | (with_reducible refine Kd.C_drewN ?_ _) | (with_reducible refine Kd.C_drew ?_))); (case side2 => exact af.out); rintro e w53 ⟨rfl, hb⟩; replace aa := Aside0.mk (kf2df.q aa.out hb rfl); replace HB := Aside0.mk (kf2df.z HB.out hb rfl rfl rfl rfl); (try clear hb); (try clear ag); (try clear hk); (try clear hi)) | (go_at_call 29; (with_reducible refine (whirligigref03_Texts.calls ah _ _ l0 t330 _ ?side1 ?side2 A20.out).mono ?_); (case side1 => repeat (first | exact (Kd.C_below ae.out HB.out) | (with_reducible refine Kd.C_alloc ?_ _) | (with_reducible refine Kd.C_drewN ?_ _) | (with_reducible refine Kd.C_drew ?_))); (case side2 => exact af.out); rintro e w54 ⟨rfl, hb⟩; replace aa := Aside0.mk (kf2df.q aa.out hb rfl); replace HB := Aside0.mk (kf2df.z HB.out hb rfl rfl rfl rfl); (try clear hb); (try clear ag); (try clear hk); (try clear hi)))
        go_ret
        exact ⟨by first | rfl | (simp [errW_none, errW_some] <;> rfl) | (simp [*, errW_none, errW_some] <;> rfl), by repeat (first | (with_reducible first | exact HB.out | apply below_alloc | apply pw_below_drewN | apply below_drew1) | exact HB.out)⟩
      ·rw [if_neg aj] at H
       have c18b0 : (t327 == t328) = false := by simpa using aj
       (try (have c18b1 : decide (t327 = t328) = false := by simpa using aj))
       (try (have c18b2 : (t327 == t328) = false := by simpa using aj))
       (try (have c18b3 : ¬ (t327 = t328) := by simpa using aj))
       clear aj
       obtain rfl := Option.some.inj H
       go_wp2_with (first | ((with_reducible refine gate_callee (f := 24) rfl ?_); refine goesL_ (some 18) rfl rfl Try.func24 (by kernel_rfl) rfl #[.slice A0 l0.length c0] rfl (by (try simp only [List.map_toArray, List.map_cons, List.map_nil]); first | done | rfl) ?_; (with_reducible refine (whirligigref03_Set.calls ah _ _ l0 true _ ?side1 ?side2 an.out).mono ?_); (case side1 => repeat (first | exact (Kd.C_below ae.out HB.out) | (with_reducible refine Kd.C_alloc ?_ _) | (with_reducible refine Kd.C_drewN ?_ _) | (with_reducible refine Kd.C_drew ?_))); (case side2 => exact af.out); rintro e w55 ⟨rfl, hb⟩; refine ⟨_, rfl, ?_⟩; replace aa := Aside0.mk (kf2df.q aa.out hb rfl); replace HB := Aside0.mk (kf2df.z HB.out hb rfl rfl rfl rfl); (try clear hb); (try clear ag); (try clear hk); (try clear hi)) | ((with_reducible refine gate_callee (f := 25) rfl ?_); refine goesL_ (some 20) rfl rfl Try.func25 (by kernel_rfl) rfl #[.slice A0 l0.length c0] rfl (by (try simp only [List.map_toArray, List.map_cons, List.map_nil]); first | done | rfl) ?_; (with_reducible refine (comm_Set.calls ah _ _ l0 t326 _ ?side1 ?side2 ao.out).mono ?_); (case side1 => repeat (first | exact (Kd.C_below ae.out HB.out) | (with_reducible refine Kd.C_alloc ?_ _) | (with_reducible refine Kd.C_drewN ?_ _) | (with_reducible refine Kd.C_drew ?_))); (case side2 => exact af.out); rintro e w56 ⟨rfl, hb⟩; refine ⟨_, rfl, ?_⟩; replace aa := Aside0.mk (kf2df.q aa.out hb rfl); replace HB := Aside0.mk (kf2df.z HB.out hb rfl rfl rfl rfl); (try clear hb); (try clear ag); (try clear hk); (try clear hi); have hcz57_0 : w56.cell? ⟨ab, 0, none⟩ = some (.int .i64 ac) := (blk_cell aa.out 0).trans rfl; have hcz57_1 : w56.cell? ⟨ab, 1, none⟩ = some (.int .i64 ad) := (blk_cell aa.out 1).trans rfl; have hfz57_0 := blk_frozen aa.out 0; have hfz57_1 := blk_frozen aa.out 1) | (go_at_call 26; (with_reducible refine (comm_Has.calls ah _ _ l0 ac ad t327 _ ?side1 ?side2 ap.out).mono ?_); (case side1 => repeat (first | exact (Kd.C_below ae.out HB.out) | (with_reducible refine Kd.C_alloc ?_ _) | (with_reducible refine Kd.C_drewN ?_ _) | (with_reducible refine Kd.C_drew ?_))); (case side2 => exact af.out); rintro e w58 ⟨rfl, hb⟩; replace aa := Aside0.mk (kf2df.q aa.out hb rfl); replace HB := Aside0.mk (kf2df.z HB.out hb rfl rfl rfl rfl); (try clear hb); (try clear ag); (try clear hk); (try clear hi); have hcz59_0 : w58.cell? ⟨ab, 0, none⟩ = some (.int .i64 ac) := (blk_cell aa.out 0).trans rfl; have hcz59_1 : w58.cell? ⟨ab, 1, none⟩ = some (.int .i64 ad) := (blk_cell aa.out 1).trans rfl; have hfz59_0 := blk_frozen aa.out 0; have hfz59_1 := blk_frozen aa.out 1) | (go_at_call 27; (with_reducible refine (whirligigref03_In.calls ah _ _ l0 ac ad t328 _ ?side1 ?side2 A17.out).mono ?_); (case side1 => repeat (first | exact (Kd.C_below ae.out HB.out) | (with_reducible refine Kd.C_alloc ?_ _) | (with_reducible refine Kd.C_drewN ?_ _) | (with_reducible refine Kd.C_drew ?_))); (case side2 => exact af.out); rintro e w60 ⟨rfl, hb⟩; replace aa := Aside0.mk (kf2df.q aa.out hb rfl); replace HB := Aside0.mk (kf2df.z HB.out hb rfl rfl rfl rfl); (try clear hb); (try clear ag); (try clear hk); (try clear hi)))
       go_ret
       exact ⟨by first | rfl | (simp [errW_none, errW_some] <;> rfl) | (simp [*, errW_none, errW_some] <;> rfl), by repeat (first | (with_reducible first | exact HB.out | apply below_alloc | apply pw_below_drewN | apply below_drew1) | exact HB.out)⟩
     ·replace c16 := Bool.eq_false_iff.mpr c16
      subst c16
      have H1 := H
      rw [if_neg (show ¬ (false = true) by decide)] at H1
      clear H
      have H := H1
      clear H1
      by_cases ak : (t327 == false) = true
      ·rw [if_pos ak] at H
       have c61b0 : (t327 == false) = true := ak
       (try (have c61b1 : decide (t327 = false) = true := by simpa using ak))
       (try (have c61b2 : (t327 == false) = true := by simpa using ak))
       clear ak
       replace H := Option.bind_eq_some_iff.mp H
       obtain ⟨t334, A620, H⟩ := H
       (try dsimp only at H)
       have A62 := Aside0.mk A620
       clear A620
       replace H := Option.bind_eq_some_iff.mp H
       obtain ⟨t335, A630, H⟩ := H
       (try dsimp only at H)
       have A63 := Aside0.mk A630
       clear A630
       by_cases c64 : t334.toList = t335.toList
       ·rw [if_pos c64] at H
        have c64b0 : (t334.toList == t335.toList) = true := beq_iff_eq.mpr c64
        have c64b1 : (t334.toList != t335.toList) = false := bne_eq_false_iff_eq.mpr c64
        clear c64
        replace H := Option.bind_eq_some_iff.mp H
        obtain ⟨t336, A650, H⟩ := H
        (try dsimp only at H)
        have A65 := Aside0.mk A650
        clear A650
        replace H := Option.bind_eq_some_iff.mp H
        obtain ⟨t337, A660, H⟩ := H
        (try dsimp only at H)
        have A66 := Aside0.mk A660
        clear A660
        by_cases c67 : t336 = t337
        ·rw [if_pos c67] at H
         have c67b0 : (t336 == t337) = true := beq_iff_eq.mpr c67
         have c67b1 : (t336 != t337) = false := bne_eq_false_iff_eq.mpr c67
         clear c67
         replace H := Option.bind_eq_some_iff.mp H
         obtain ⟨t338, A680, H⟩ := H
         replace H : (some t338) = some r := H
         have A68 := Aside0.mk A680
         clear A680
         obtain rfl := Option.some.inj H
         go_wp2_with (first | ((with_reducible refine gate_callee (f := 24) rfl ?_); refine goesL_ (some 18) rfl rfl Try.func24 (by kernel_rfl) rfl #[.slice A0 l0.length c0] rfl (by (try simp only [List.map_toArray, List.map_cons, List.map_nil]); first | done | rfl) ?_; (with_reducible refine (whirligigref03_Set.calls ah _ _ l0 false _ ?side1 ?side2 an.out).mono ?_); (case side1 => repeat (first | exact (Kd.C_below ae.out HB.out) | (with_reducible refine Kd.C_alloc ?_ _) | (with_reducible refine Kd.C_drewN ?_ _) | (with_reducible refine Kd.C_drew ?_))); (case side2 => exact af.out); rintro e w69 ⟨rfl, hb⟩; refine ⟨_, rfl, ?_⟩; replace aa := Aside0.mk (kf2df.q aa.out hb rfl); replace HB := Aside0.mk (kf2df.z HB.out hb rfl rfl rfl rfl); (try clear hb); (try clear ag); (try clear hk); (try clear hi)) | ((with_reducible refine gate_callee (f := 25) rfl ?_); refine goesL_ (some 20) rfl rfl Try.func25 (by kernel_rfl) rfl #[.slice A0 l0.length c0] rfl (by (try simp only [List.map_toArray, List.map_cons, List.map_nil]); first | done | rfl) ?_; (with_reducible refine (comm_Set.calls ah _ _ l0 t326 _ ?side1 ?side2 ao.out).mono ?_); (case side1 => repeat (first | exact (Kd.C_below ae.out HB.out) | (with_reducible refine Kd.C_alloc ?_ _) | (with_reducible refine Kd.C_drewN ?_ _) | (with_reducible refine Kd.C_drew ?_))); (case side2 => exact af.out); rintro e w70 ⟨rfl, hb⟩; refine ⟨_, rfl, ?_⟩; replace aa := Aside0.mk (kf2df.q aa.out hb rfl); replace HB := Aside0.mk (kf2df.z HB.out hb rfl rfl rfl rfl); (try clear hb); (try clear ag); (try clear hk); (try clear hi); have hcz71_0 : w70.cell? ⟨ab, 0, none⟩ = some (.int .i64 ac) := (blk_cell aa.out 0).trans rfl; have hcz71_1 : w70.cell? ⟨ab, 1, none⟩ = some (.int .i64 ad) := (blk_cell aa.out 1).trans rfl; have hfz71_0 := blk_frozen aa.out 0; have hfz71_1 := blk_frozen aa.out 1) | (go_at_call 26; (with_reducible refine (comm_Has.calls ah _ _ l0 ac ad t327 _ ?side1 ?side2 ap.out).mono ?_); (case side1 => repeat (first | exact (Kd.C_below ae.out HB.out) | (with_reducible refine Kd.C_alloc ?_ _) | (with_reducible refine Kd.C_drewN ?_ _) | (with_reducible refine Kd.C_drew ?_))); (case side2 => exact af.out); rintro e w72 ⟨rfl, hb⟩; replace aa := Aside0.mk (kf2df.q aa.out hb rfl); replace HB := Aside0.mk (kf2df.z HB.out hb rfl rfl rfl rfl); (try clear hb); (try clear ag); (try clear hk); (try clear hi)) | (go_at_call 28; (with_reducible refine (comm_Texts.calls ah _ _ l0 t334 _ ?side1 ?side2 A62.out).mono ?_); (case side1 => repeat (first | exact (Kd.C_below ae.out HB.out) | (with_reducible refine Kd.C_alloc ?_ _) | (with_reducible refine Kd.C_drewN ?_ _) | (with_reducible refine Kd.C_drew ?_))); (case side2 => exact af.out); rintro e w73 ⟨rfl, hb⟩; replace aa := Aside0.mk (kf2df.q aa.out hb rfl); replace HB := Aside0.mk (kf2df.z HB.out hb rfl rfl rfl rfl); (try clear hb); (try clear ag); (try clear hk); (try clear hi)) | (go_at_call 29; (with_reducible refine (whirligigref03_Texts.calls ah _ _ l0 t335 _ ?side1 ?side2 A63.out).mono ?_); (case side1 => repeat (first | exact (Kd.C_below ae.out HB.out) | (with_reducible refine Kd.C_alloc ?_ _) | (with_reducible refine Kd.C_drewN ?_ _) | (with_reducible refine Kd.C_drew ?_))); (case side2 => exact af.out); rintro e w74 ⟨rfl, hb⟩; replace aa := Aside0.mk (kf2df.q aa.out hb rfl); replace HB := Aside0.mk (kf2df.z HB.out hb rfl rfl rfl rfl); (try clear hb); (try clear ag); (try clear hk); (try clear hi)) | (go_at_call 23; (with_reducible refine (comm_Compare.calls _ _ l0 _ _ l1 t336 _ ?side1 ?side2 ?side3 ?side4 A65.out).mono ?_); (case side1 | side3 => repeat (first | exact (Kd.C_below ae.out HB.out) | exact (Kd.C_below al.out HB.out) | (with_reducible refine Kd.C_alloc ?_ _) | (with_reducible refine Kd.C_drewN ?_ _) | (with_reducible refine Kd.C_drew ?_))); (case side2 | side4 => first | exact af.out | exact am.out); rintro e w75 ⟨rfl, hb⟩; replace aa := Aside0.mk (kf2df.q aa.out hb rfl); replace HB := Aside0.mk (kf2df.z HB.out hb rfl rfl rfl rfl); (try clear hb); (try clear ag); (try clear hk); (try clear hi)) | (go_at_call 30; (with_reducible refine (whirligigref03_Compare.calls ah _ _ l0 _ _ l1 t337 _ ?side1 ?side2 ?side3 ?side4 A66.out).mono ?_); (case side1 | side3 => repeat (first | exact (Kd.C_below ae.out HB.out) | exact (Kd.C_below al.out HB.out) | (with_reducible refine Kd.C_alloc ?_ _) | (with_reducible refine Kd.C_drewN ?_ _) | (with_reducible refine Kd.C_drew ?_))); (case side2 | side4 => first | exact af.out | exact am.out); rintro e w76 ⟨rfl, hb⟩; replace aa := Aside0.mk (kf2df.q aa.out hb rfl); replace HB := Aside0.mk (kf2df.z HB.out hb rfl rfl rfl rfl); (try clear hb); (try clear ag); (try clear hk); (try clear hi)) | (go_at_call 9; (with_reducible refine (whirligiglaw03_lives.calls ah  t338 _ A68.out).mono ?_); rintro e w77 ⟨rfl, hb⟩; replace aa := Aside0.mk (kf2df.q aa.out hb rfl); replace HB := Aside0.mk (kf2df.z HB.out hb rfl rfl rfl rfl); (try clear hb); (try clear ag); (try clear hk); (try clear hi)))
         go_ret
         exact ⟨by first | rfl | (simp [errW_none, errW_some] <;> rfl) | (simp [*, errW_none, errW_some] <;> rfl), by repeat (first | (with_reducible first | exact HB.out | apply below_alloc | apply pw_below_drewN | apply below_drew1) | exact HB.out)⟩
        ·rw [if_neg c67] at H
         have c67b0 : (t336 == t337) = false := beq_eq_false_iff_ne.mpr c67
         have c67b1 : (t336 != t337) = true := bne_iff_ne.mpr c67
         obtain rfl := Option.some.inj H
         go_wp2_with (first | ((with_reducible refine gate_callee (f := 24) rfl ?_); refine goesL_ (some 18) rfl rfl Try.func24 (by kernel_rfl) rfl #[.slice A0 l0.length c0] rfl (by (try simp only [List.map_toArray, List.map_cons, List.map_nil]); first | done | rfl) ?_; (with_reducible refine (whirligigref03_Set.calls ah _ _ l0 false _ ?side1 ?side2 an.out).mono ?_); (case side1 => repeat (first | exact (Kd.C_below ae.out HB.out) | (with_reducible refine Kd.C_alloc ?_ _) | (with_reducible refine Kd.C_drewN ?_ _) | (with_reducible refine Kd.C_drew ?_))); (case side2 => exact af.out); rintro e w78 ⟨rfl, hb⟩; refine ⟨_, rfl, ?_⟩; replace aa := Aside0.mk (kf2df.q aa.out hb rfl); replace HB := Aside0.mk (kf2df.z HB.out hb rfl rfl rfl rfl); (try clear hb); (try clear ag); (try clear hk); (try clear hi)) | ((with_reducible refine gate_callee (f := 25) rfl ?_); refine goesL_ (some 20) rfl rfl Try.func25 (by kernel_rfl) rfl #[.slice A0 l0.length c0] rfl (by (try simp only [List.map_toArray, List.map_cons, List.map_nil]); first | done | rfl) ?_; (with_reducible refine (comm_Set.calls ah _ _ l0 t326 _ ?side1 ?side2 ao.out).mono ?_); (case side1 => repeat (first | exact (Kd.C_below ae.out HB.out) | (with_reducible refine Kd.C_alloc ?_ _) | (with_reducible refine Kd.C_drewN ?_ _) | (with_reducible refine Kd.C_drew ?_))); (case side2 => exact af.out); rintro e w79 ⟨rfl, hb⟩; refine ⟨_, rfl, ?_⟩; replace aa := Aside0.mk (kf2df.q aa.out hb rfl); replace HB := Aside0.mk (kf2df.z HB.out hb rfl rfl rfl rfl); (try clear hb); (try clear ag); (try clear hk); (try clear hi); have hcz80_0 : w79.cell? ⟨ab, 0, none⟩ = some (.int .i64 ac) := (blk_cell aa.out 0).trans rfl; have hcz80_1 : w79.cell? ⟨ab, 1, none⟩ = some (.int .i64 ad) := (blk_cell aa.out 1).trans rfl; have hfz80_0 := blk_frozen aa.out 0; have hfz80_1 := blk_frozen aa.out 1) | (go_at_call 26; (with_reducible refine (comm_Has.calls ah _ _ l0 ac ad t327 _ ?side1 ?side2 ap.out).mono ?_); (case side1 => repeat (first | exact (Kd.C_below ae.out HB.out) | (with_reducible refine Kd.C_alloc ?_ _) | (with_reducible refine Kd.C_drewN ?_ _) | (with_reducible refine Kd.C_drew ?_))); (case side2 => exact af.out); rintro e w81 ⟨rfl, hb⟩; replace aa := Aside0.mk (kf2df.q aa.out hb rfl); replace HB := Aside0.mk (kf2df.z HB.out hb rfl rfl rfl rfl); (try clear hb); (try clear ag); (try clear hk); (try clear hi)) | (go_at_call 28; (with_reducible refine (comm_Texts.calls ah _ _ l0 t334 _ ?side1 ?side2 A62.out).mono ?_); (case side1 => repeat (first | exact (Kd.C_below ae.out HB.out) | (with_reducible refine Kd.C_alloc ?_ _) | (with_reducible refine Kd.C_drewN ?_ _) | (with_reducible refine Kd.C_drew ?_))); (case side2 => exact af.out); rintro e w82 ⟨rfl, hb⟩; replace aa := Aside0.mk (kf2df.q aa.out hb rfl); replace HB := Aside0.mk (kf2df.z HB.out hb rfl rfl rfl rfl); (try clear hb); (try clear ag); (try clear hk); (try clear hi)) | (go_at_call 29; (with_reducible refine (whirligigref03_Texts.calls ah _ _ l0 t335 _ ?side1 ?side2 A63.out).mono ?_); (case side1 => repeat (first | exact (Kd.C_below ae.out HB.out) | (with_reducible refine Kd.C_alloc ?_ _) | (with_reducible refine Kd.C_drewN ?_ _) | (with_reducible refine Kd.C_drew ?_))); (case side2 => exact af.out); rintro e w83 ⟨rfl, hb⟩; replace aa := Aside0.mk (kf2df.q aa.out hb rfl); replace HB := Aside0.mk (kf2df.z HB.out hb rfl rfl rfl rfl); (try clear hb); (try clear ag); (try clear hk); (try clear hi)) | (go_at_call 23; (with_reducible refine (comm_Compare.calls _ _ l0 _ _ l1 t336 _ ?side1 ?side2 ?side3 ?side4 A65.out).mono ?_); (case side1 | side3 => repeat (first | exact (Kd.C_below ae.out HB.out) | exact (Kd.C_below al.out HB.out) | (with_reducible refine Kd.C_alloc ?_ _) | (with_reducible refine Kd.C_drewN ?_ _) | (with_reducible refine Kd.C_drew ?_))); (case side2 | side4 => first | exact af.out | exact am.out); rintro e w84 ⟨rfl, hb⟩; replace aa := Aside0.mk (kf2df.q aa.out hb rfl); replace HB := Aside0.mk (kf2df.z HB.out hb rfl rfl rfl rfl); (try clear hb); (try clear ag); (try clear hk); (try clear hi)) | (go_at_call 30; (with_reducible refine (whirligigref03_Compare.calls ah _ _ l0 _ _ l1 t337 _ ?side1 ?side2 ?side3 ?side4 A66.out).mono ?_); (case side1 | side3 => repeat (first | exact (Kd.C_below ae.out HB.out) | exact (Kd.C_below al.out HB.out) | (with_reducible refine Kd.C_alloc ?_ _) | (with_reducible refine Kd.C_drewN ?_ _) | (with_reducible refine Kd.C_drew ?_))); (case side2 | side4 => first | exact af.out | exact am.out); rintro e w85 ⟨rfl, hb⟩; replace aa := Aside0.mk (kf2df.q aa.out hb rfl); replace HB := Aside0.mk (kf2df.z HB.out hb rfl rfl rfl rfl); (try clear hb); (try clear ag); (try clear hk); (try clear hi)))
         go_ret
         exact ⟨by first | rfl | (simp [errW_none, errW_some] <;> rfl) | (simp [*, errW_none, errW_some] <;> rfl), by repeat (first | (with_reducible first | exact HB.out | apply below_alloc | apply pw_below_drewN | apply below_drew1) | exact HB.out)⟩
       ·rw [if_neg c64] at H
        have c64b0 : (t334.toList == t335.toList) = false := beq_eq_false_iff_ne.mpr c64
        have c64b1 : (t334.toList != t335.toList) = true := bne_iff_ne.mpr c64
        obtain rfl := Option.some.inj H
        go_wp2_with (first | ((with_reducible refine gate_callee (f := 24) rfl ?_); refine goesL_ (some 18) rfl rfl Try.func24 (by kernel_rfl) rfl #[.slice A0 l0.length c0] rfl (by (try simp only [List.map_toArray, List.map_cons, List.map_nil]); first | done | rfl) ?_; (with_reducible refine (whirligigref03_Set.calls ah _ _ l0 false _ ?side1 ?side2 an.out).mono ?_); (case side1 => repeat (first | exact (Kd.C_below ae.out HB.out) | (with_reducible refine Kd.C_alloc ?_ _) | (with_reducible refine Kd.C_drewN ?_ _) | (with_reducible refine Kd.C_drew ?_))); (case side2 => exact af.out); rintro e w86 ⟨rfl, hb⟩; refine ⟨_, rfl, ?_⟩; replace aa := Aside0.mk (kf2df.q aa.out hb rfl); replace HB := Aside0.mk (kf2df.z HB.out hb rfl rfl rfl rfl); (try clear hb); (try clear ag); (try clear hk); (try clear hi)) | ((with_reducible refine gate_callee (f := 25) rfl ?_); refine goesL_ (some 20) rfl rfl Try.func25 (by kernel_rfl) rfl #[.slice A0 l0.length c0] rfl (by (try simp only [List.map_toArray, List.map_cons, List.map_nil]); first | done | rfl) ?_; (with_reducible refine (comm_Set.calls ah _ _ l0 t326 _ ?side1 ?side2 ao.out).mono ?_); (case side1 => repeat (first | exact (Kd.C_below ae.out HB.out) | (with_reducible refine Kd.C_alloc ?_ _) | (with_reducible refine Kd.C_drewN ?_ _) | (with_reducible refine Kd.C_drew ?_))); (case side2 => exact af.out); rintro e w87 ⟨rfl, hb⟩; refine ⟨_, rfl, ?_⟩; replace aa := Aside0.mk (kf2df.q aa.out hb rfl); replace HB := Aside0.mk (kf2df.z HB.out hb rfl rfl rfl rfl); (try clear hb); (try clear ag); (try clear hk); (try clear hi); have hcz88_0 : w87.cell? ⟨ab, 0, none⟩ = some (.int .i64 ac) := (blk_cell aa.out 0).trans rfl; have hcz88_1 : w87.cell? ⟨ab, 1, none⟩ = some (.int .i64 ad) := (blk_cell aa.out 1).trans rfl; have hfz88_0 := blk_frozen aa.out 0; have hfz88_1 := blk_frozen aa.out 1) | (go_at_call 26; (with_reducible refine (comm_Has.calls ah _ _ l0 ac ad t327 _ ?side1 ?side2 ap.out).mono ?_); (case side1 => repeat (first | exact (Kd.C_below ae.out HB.out) | (with_reducible refine Kd.C_alloc ?_ _) | (with_reducible refine Kd.C_drewN ?_ _) | (with_reducible refine Kd.C_drew ?_))); (case side2 => exact af.out); rintro e w89 ⟨rfl, hb⟩; replace aa := Aside0.mk (kf2df.q aa.out hb rfl); replace HB := Aside0.mk (kf2df.z HB.out hb rfl rfl rfl rfl); (try clear hb); (try clear ag); (try clear hk); (try clear hi)) | (go_at_call 28; (with_reducible refine (comm_Texts.calls ah _ _ l0 t334 _ ?side1 ?side2 A62.out).mono ?_); (case side1 => repeat (first | exact (Kd.C_below ae.out HB.out) | (with_reducible refine Kd.C_alloc ?_ _) | (with_reducible refine Kd.C_drewN ?_ _) | (with_reducible refine Kd.C_drew ?_))); (case side2 => exact af.out); rintro e w90 ⟨rfl, hb⟩; replace aa := Aside0.mk (kf2df.q aa.out hb rfl); replace HB := Aside0.mk (kf2df.z HB.out hb rfl rfl rfl rfl); (try clear hb); (try clear ag); (try clear hk); (try clear hi)) | (go_at_call 29; (with_reducible refine (whirligigref03_Texts.calls ah _ _ l0 t335 _ ?side1 ?side2 A63.out).mono ?_); (case side1 => repeat (first | exact (Kd.C_below ae.out HB.out) | (with_reducible refine Kd.C_alloc ?_ _) | (with_reducible refine Kd.C_drewN ?_ _) | (with_reducible refine Kd.C_drew ?_))); (case side2 => exact af.out); rintro e w91 ⟨rfl, hb⟩; replace aa := Aside0.mk (kf2df.q aa.out hb rfl); replace HB := Aside0.mk (kf2df.z HB.out hb rfl rfl rfl rfl); (try clear hb); (try clear ag); (try clear hk); (try clear hi)))
        go_ret
        exact ⟨by first | rfl | (simp [errW_none, errW_some] <;> rfl) | (simp [*, errW_none, errW_some] <;> rfl), by repeat (first | (with_reducible first | exact HB.out | apply below_alloc | apply pw_below_drewN | apply below_drew1) | exact HB.out)⟩
      ·rw [if_neg ak] at H
       have c61b0 : (t327 == false) = false := by simpa using ak
       (try (have c61b1 : decide (t327 = false) = false := by simpa using ak))
       (try (have c61b2 : (t327 == false) = false := by simpa using ak))
       (try (have c61b3 : ¬ (t327 = false) := by simpa using ak))
       clear ak
       obtain rfl := Option.some.inj H
       go_wp2_with (first | ((with_reducible refine gate_callee (f := 24) rfl ?_); refine goesL_ (some 18) rfl rfl Try.func24 (by kernel_rfl) rfl #[.slice A0 l0.length c0] rfl (by (try simp only [List.map_toArray, List.map_cons, List.map_nil]); first | done | rfl) ?_; (with_reducible refine (whirligigref03_Set.calls ah _ _ l0 false _ ?side1 ?side2 an.out).mono ?_); (case side1 => repeat (first | exact (Kd.C_below ae.out HB.out) | (with_reducible refine Kd.C_alloc ?_ _) | (with_reducible refine Kd.C_drewN ?_ _) | (with_reducible refine Kd.C_drew ?_))); (case side2 => exact af.out); rintro e w92 ⟨rfl, hb⟩; refine ⟨_, rfl, ?_⟩; replace aa := Aside0.mk (kf2df.q aa.out hb rfl); replace HB := Aside0.mk (kf2df.z HB.out hb rfl rfl rfl rfl); (try clear hb); (try clear ag); (try clear hk); (try clear hi)) | ((with_reducible refine gate_callee (f := 25) rfl ?_); refine goesL_ (some 20) rfl rfl Try.func25 (by kernel_rfl) rfl #[.slice A0 l0.length c0] rfl (by (try simp only [List.map_toArray, List.map_cons, List.map_nil]); first | done | rfl) ?_; (with_reducible refine (comm_Set.calls ah _ _ l0 t326 _ ?side1 ?side2 ao.out).mono ?_); (case side1 => repeat (first | exact (Kd.C_below ae.out HB.out) | (with_reducible refine Kd.C_alloc ?_ _) | (with_reducible refine Kd.C_drewN ?_ _) | (with_reducible refine Kd.C_drew ?_))); (case side2 => exact af.out); rintro e w93 ⟨rfl, hb⟩; refine ⟨_, rfl, ?_⟩; replace aa := Aside0.mk (kf2df.q aa.out hb rfl); replace HB := Aside0.mk (kf2df.z HB.out hb rfl rfl rfl rfl); (try clear hb); (try clear ag); (try clear hk); (try clear hi); have hcz94_0 : w93.cell? ⟨ab, 0, none⟩ = some (.int .i64 ac) := (blk_cell aa.out 0).trans rfl; have hcz94_1 : w93.cell? ⟨ab, 1, none⟩ = some (.int .i64 ad) := (blk_cell aa.out 1).trans rfl; have hfz94_0 := blk_frozen aa.out 0; have hfz94_1 := blk_frozen aa.out 1) | (go_at_call 26; (with_reducible refine (comm_Has.calls ah _ _ l0 ac ad t327 _ ?side1 ?side2 ap.out).mono ?_); (case side1 => repeat (first | exact (Kd.C_below ae.out HB.out) | (with_reducible refine Kd.C_alloc ?_ _) | (with_reducible refine Kd.C_drewN ?_ _) | (with_reducible refine Kd.C_drew ?_))); (case side2 => exact af.out); rintro e w95 ⟨rfl, hb⟩; replace aa := Aside0.mk (kf2df.q aa.out hb rfl); replace HB := Aside0.mk (kf2df.z HB.out hb rfl rfl rfl rfl); (try clear hb); (try clear ag); (try clear hk); (try clear hi)))
       go_ret
       exact ⟨by first | rfl | (simp [errW_none, errW_some] <;> rfl) | (simp [*, errW_none, errW_some] <;> rfl), by repeat (first | (with_reducible first | exact HB.out | apply below_alloc | apply pw_below_drewN | apply below_drew1) | exact HB.out)⟩
    ·rw [if_neg ai] at H
     have c14b0 : (t326 == t325) = false := by simpa using ai
     (try (have c14b1 : decide (t326 = t325) = false := by simpa using ai))
     (try (have c14b2 : (t326 == t325) = false := by simpa using ai))
     (try (have c14b3 : ¬ (t326 = t325) := by simpa using ai))
     clear ai
     obtain rfl := Option.some.inj H
     go_wp2_with (first | ((with_reducible refine gate_callee (f := 24) rfl ?_); refine goesL_ (some 18) rfl rfl Try.func24 (by kernel_rfl) rfl #[.slice A0 l0.length c0] rfl (by (try simp only [List.map_toArray, List.map_cons, List.map_nil]); first | done | rfl) ?_; (with_reducible refine (whirligigref03_Set.calls ah _ _ l0 t325 _ ?side1 ?side2 an.out).mono ?_); (case side1 => repeat (first | exact (Kd.C_below ae.out HB.out) | (with_reducible refine Kd.C_alloc ?_ _) | (with_reducible refine Kd.C_drewN ?_ _) | (with_reducible refine Kd.C_drew ?_))); (case side2 => exact af.out); rintro e w96 ⟨rfl, hb⟩; refine ⟨_, rfl, ?_⟩; replace aa := Aside0.mk (kf2df.q aa.out hb rfl); replace HB := Aside0.mk (kf2df.z HB.out hb rfl rfl rfl rfl); (try clear hb); (try clear ag); (try clear hk); (try clear hi)) | ((with_reducible refine gate_callee (f := 25) rfl ?_); refine goesL_ (some 20) rfl rfl Try.func25 (by kernel_rfl) rfl #[.slice A0 l0.length c0] rfl (by (try simp only [List.map_toArray, List.map_cons, List.map_nil]); first | done | rfl) ?_; (with_reducible refine (comm_Set.calls ah _ _ l0 t326 _ ?side1 ?side2 ao.out).mono ?_); (case side1 => repeat (first | exact (Kd.C_below ae.out HB.out) | (with_reducible refine Kd.C_alloc ?_ _) | (with_reducible refine Kd.C_drewN ?_ _) | (with_reducible refine Kd.C_drew ?_))); (case side2 => exact af.out); rintro e w97 ⟨rfl, hb⟩; refine ⟨_, rfl, ?_⟩; replace aa := Aside0.mk (kf2df.q aa.out hb rfl); replace HB := Aside0.mk (kf2df.z HB.out hb rfl rfl rfl rfl); (try clear hb); (try clear ag); (try clear hk); (try clear hi)))
     go_ret
     exact ⟨by first | rfl | (simp [errW_none, errW_some] <;> rfl) | (simp [*, errW_none, errW_some] <;> rfl), by repeat (first | (with_reducible first | exact HB.out | apply below_alloc | apply pw_below_drewN | apply below_drew1) | exact HB.out)⟩

end Go.Proofs.Ytikjfonedddlpaa.P

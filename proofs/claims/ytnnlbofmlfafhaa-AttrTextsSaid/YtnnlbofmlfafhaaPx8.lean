/- Printed by this session's own program (wip/tools/pr.py) out of the translation: functions of the program as plain Lean functions, and that the program's calls come to what these say. -/
import Derived.Test.YtnnlbofmlfafhaaPx0
import Derived.Test.YtnnlbofmlfafhaaPx5
import Derived.Test.YtnnlbofmlfafhaaPx7
namespace Go.Proofs.Ytnnlbofmlfafhaa.P
open Go.RowKit Go.Proofs.YtnnlbofmlfafhaaW.PrintWords Go.Proofs.YtnnlbofmlfafhaaW.PrintLast Go.Proofs.YtnnlbofmlfafhaaW.PrintMore
attribute [local go_sem] max2_int min2_int max_two min_two max_three min_three max_four min_four   -- for this text's walks alone
set_option linter.unusedVariables false
set_option linter.unusedSimpArgs false

/-! ### whirligigref03_Text: function 75 -/
mutual
def whirligigref03_Text.j0 : Nat → Bool → Int → Int → Option (ByteArray)
  | 0, _, _, _ => none
  | k + 1, x13, x289000, x289001 => if x13 = true then (some (⟨#[110, 111, 45, 101, 120, 112, 111, 114, 116]⟩ : ByteArray)) else (if x289000 = 65535 then (whirligigref03_Text.j1 k (x289001 == 65282) x289000 x289001) else (whirligigref03_Text.j1 k false x289000 x289001))
def whirligigref03_Text.j1 : Nat → Bool → Int → Int → Option (ByteArray)
  | 0, _, _, _ => none
  | k + 1, x21, x289000, x289001 => if x21 = true then (some (⟨#[110, 111, 45, 97, 100, 118, 101, 114, 116, 105, 115, 101]⟩ : ByteArray)) else (if x289000 = 65535 then (whirligigref03_Text.j2 k (x289001 == 65283) x289000 x289001) else (whirligigref03_Text.j2 k false x289000 x289001))
def whirligigref03_Text.j2 : Nat → Bool → Int → Int → Option (ByteArray)
  | 0, _, _, _ => none
  | k + 1, x29, x289000, x289001 => if x29 = true then (some (⟨#[108, 111, 99, 97, 108]⟩ : ByteArray)) else ((whirligigref01_Number.f k x289000).bind fun t290 => (if t290.size + 1 ≤ 9223372036854775807 then ((whirligigref01_Number.f k x289001).bind fun t291 => (if (t290 ++ (⟨#[58]⟩ : ByteArray)).size + t291.size ≤ 9223372036854775807 then (some ((t290 ++ (⟨#[58]⟩ : ByteArray)) ++ t291)) else (none))) else (none)))
end
def whirligigref03_Text.f (k : Nat) (a0_0 : Int) (a0_1 : Int) : Option (ByteArray) := (whirligigref03_May.f a0_0 a0_1).bind fun t289 => (if t289 = true then (if a0_0 = 65535 then (whirligigref03_Text.j0 k (a0_1 == 65281) a0_0 a0_1) else (whirligigref03_Text.j0 k false a0_0 a0_1)) else (some (⟨#[]⟩ : ByteArray)))
theorem whirligigref03_Text.mono_l : ∀ k, (∀ y0 y1 y2, LeO (whirligigref03_Text.j0 k y0 y1 y2) (whirligigref03_Text.j0 (k + 1) y0 y1 y2)) ∧ (∀ y0 y1 y2, LeO (whirligigref03_Text.j1 k y0 y1 y2) (whirligigref03_Text.j1 (k + 1) y0 y1 y2)) ∧ (∀ y0 y1 y2, LeO (whirligigref03_Text.j2 k y0 y1 y2) (whirligigref03_Text.j2 (k + 1) y0 y1 y2))
  | 0 => ⟨fun _ _ _ r h => by simp [whirligigref03_Text.j0] at h, fun _ _ _ r h => by simp [whirligigref03_Text.j1] at h, fun _ _ _ r h => by simp [whirligigref03_Text.j2] at h⟩
  | k + 1 => by
    obtain ⟨ih0, ih1, ih2⟩ := whirligigref03_Text.mono_l k
    refine ⟨?_, ?_, ?_⟩
    · intro y0 y1 y2
      unfold whirligigref03_Text.j0
      repeat' first
      | (with_reducible exact ih0 _ _ _)
      | (with_reducible exact ih1 _ _ _)
      | (with_reducible exact ih2 _ _ _)
      | (with_reducible exact whirligigref01_Number.mono _ _)
      | (with_reducible exact LeO.refl _)
      | (with_reducible exact LeO.none _)
      | (with_reducible refine LeO.ite ?_ ?_)
      | (with_reducible refine LeO.bind ?_ (fun _ => ?_))
      | exact ih0 _ _ _
      | exact ih1 _ _ _
      | exact ih2 _ _ _
      | exact whirligigref01_Number.mono _ _
      | exact LeO.none _
      | refine LeO.ite ?_ ?_
      | refine LeO.bind ?_ (fun _ => ?_)
    · intro y0 y1 y2
      unfold whirligigref03_Text.j1
      repeat' first
      | (with_reducible exact ih0 _ _ _)
      | (with_reducible exact ih1 _ _ _)
      | (with_reducible exact ih2 _ _ _)
      | (with_reducible exact whirligigref01_Number.mono _ _)
      | (with_reducible exact LeO.refl _)
      | (with_reducible exact LeO.none _)
      | (with_reducible refine LeO.ite ?_ ?_)
      | (with_reducible refine LeO.bind ?_ (fun _ => ?_))
      | exact ih0 _ _ _
      | exact ih1 _ _ _
      | exact ih2 _ _ _
      | exact whirligigref01_Number.mono _ _
      | exact LeO.none _
      | refine LeO.ite ?_ ?_
      | refine LeO.bind ?_ (fun _ => ?_)
    · intro y0 y1 y2
      unfold whirligigref03_Text.j2
      repeat' first
      | (with_reducible exact ih0 _ _ _)
      | (with_reducible exact ih1 _ _ _)
      | (with_reducible exact ih2 _ _ _)
      | (with_reducible exact whirligigref01_Number.mono _ _)
      | (with_reducible exact LeO.refl _)
      | (with_reducible exact LeO.none _)
      | (with_reducible refine LeO.ite ?_ ?_)
      | (with_reducible refine LeO.bind ?_ (fun _ => ?_))
      | exact ih0 _ _ _
      | exact ih1 _ _ _
      | exact ih2 _ _ _
      | exact whirligigref01_Number.mono _ _
      | exact LeO.none _
      | refine LeO.ite ?_ ?_
      | refine LeO.bind ?_ (fun _ => ?_)
theorem whirligigref03_Text.mono : ∀ a0 a1 k, LeO (whirligigref03_Text.f k a0 a1) (whirligigref03_Text.f (k + 1) a0 a1) := by
  intro a0 a1 k
  obtain ⟨ih0, ih1, ih2⟩ := whirligigref03_Text.mono_l k
  unfold whirligigref03_Text.f
  repeat' first
      | (with_reducible exact ih0 _ _ _)
      | (with_reducible exact ih1 _ _ _)
      | (with_reducible exact ih2 _ _ _)
      | (with_reducible exact whirligigref01_Number.mono _ _)
      | (with_reducible exact LeO.refl _)
      | (with_reducible exact LeO.none _)
      | (with_reducible refine LeO.ite ?_ ?_)
      | (with_reducible refine LeO.bind ?_ (fun _ => ?_))
      | exact ih0 _ _ _
      | exact ih1 _ _ _
      | exact ih2 _ _ _
      | exact whirligigref01_Number.mono _ _
      | exact LeO.none _
      | refine LeO.ite ?_ ?_
      | refine LeO.bind ?_ (fun _ => ?_)
def whirligigref03_Text.T9 : Bool × List (List Nat × List Nat) := (true, [([], []), ([0], [0]), ([1], [1]), ([2], [2]), ([], []), ([4], [4]), ([5, 2], [5]), ([3, 6], [3, 6]), ([7, 6, 0, 1, 2, 3, 4, 5, 6, 7], [7])])
def whirligigref03_Text.B9 : List Nat := [0, 1, 3, 7, 0, 16, 55, 127, 255]
theorem whirligigref03_Text.tab9 : rtab .any (opsOf Try.f75 9) = whirligigref03_Text.T9 := by kernel_rfl
theorem whirligigref03_Text.bits9 : waitsOk whirligigref03_Text.T9.2 whirligigref03_Text.B9 = true := by kernel_rfl
theorem k5a8a.b2e {W : World} {g : Nat} {v0 v1 : Value} {t : TypeId} (h : W.heap[g]? = some (.cells #[v0, v1] t (0, 0))) : W.cell? ⟨g, 0, none⟩ = some v0 ∧ W.cell? ⟨g, 1, none⟩ = some v1 :=
  ⟨(blk_cell h 0).trans rfl, (blk_cell h 1).trans rfl⟩
@[reducible] def k5a8a.S0 (g0 : Nat) (v0 v1 : Value) (w' : World) : Prop := w'.cell? ⟨g0, 0, none⟩ = some v0 ∧ w'.cell? ⟨g0, 1, none⟩ = some v1
set_option maxHeartbeats 8000000 in
set_option maxRecDepth 100000 in
theorem whirligigref03_Text.calls (k : Nat) (ac : Int) (ad : Int) (r : ByteArray) (w : World) (h : whirligigref03_Text.f k ac ad = some r) :
  Calls Try.prog 75 #[.agg #[.int .i64 ac, .int .i64 ad]] w fun e w' => e = .returned (.string r) ∧ Below w.heap.size w w' := by
 have hu63 := Try.underlying63
 have HB := Aside0.mk (Below.refl w.heap.size w)
 have H := h
 unfold whirligigref03_Text.f at H
 clear h
 replace H := Option.bind_eq_some_iff.mp H
 obtain ⟨t289, A20, H⟩ := H
 (try dsimp only at H)
 have A2 := Aside0.mk A20
 clear A20
 by_cases c3 : t289 = true
 ·subst c3
  have H1 := H
  rw [if_pos rfl] at H1
  clear H
  have H := H1
  clear H1
  have HC4 := Aside0.mk H
  clear H
  go_enter Try.func75, Try.ntmps75
  go_upto_region 3 with (first | ((with_reducible refine gate_dst (N := 1) rfl ?_); refine box_event ?hg (N := 1) ?hd (cs := #[.int .i64 ac, .int .i64 ad]) (t := 63) ?hr ?_; (case hd => rfl); (case hg => rfl); (case hr => first | (go_simp; done) | (go_simp; rfl)); intro ab hg w5 hbox hb; have n0_ := Aside0.mk (below_step (by repeat (first | (with_reducible first | exact HB.out | apply below_alloc | apply pw_below_drewN | apply below_drew1) | exact HB.out)) hb); have n1_ := Aside0.mk (hbox); have n2_ := Aside0.mk ((by rw [hg]; exact (below_size (by repeat (first | (with_reducible first | exact HB.out | apply below_alloc | apply pw_below_drewN | apply below_drew1) | exact HB.out))) : w.heap.size ≤ ab)); have n3_ := Aside0.mk ((by rw [hg]; exact (below_size (by repeat (first | (with_reducible first | exact HB.out | apply below_alloc | apply pw_below_drewN | apply below_drew1) | exact HB.out))) : w.heap.size ≤ ab)); clear HB; have HB := n0_; have aa := n1_; have GW288 := n2_; have ae := n3_; clear n0_ n1_ n2_ n3_; clear hb hbox hg; have hcz6_0 : w5.cell? ⟨ab, 0, none⟩ = some (.int .i64 ac) := (blk_cell aa.out 0).trans rfl; have hcz6_1 : w5.cell? ⟨ab, 1, none⟩ = some (.int .i64 ad) := (blk_cell aa.out 1).trans rfl; have hfz6_0 := blk_frozen aa.out 0; have hfz6_1 := blk_frozen aa.out 1) | ((with_reducible refine gate_callee (f := 58) rfl ?_); refine goesL_ (some 4) rfl rfl Try.func58 (by kernel_rfl) rfl #[.agg #[.int .i64 ac, .int .i64 ad]] rfl (by (try simp only [List.map_toArray, List.map_cons, List.map_nil]); first | done | rfl) ?_; (with_reducible refine (whirligigref03_May.calls ac ad true _ A2.out).mono ?_); rintro e w7 ⟨rfl, hb⟩; refine ⟨_, rfl, ?_⟩; replace aa := Aside0.mk (blk_below (g := ab) (by (with_reducible repeat (first | refine blk_drewN ?_ _ | refine blk_drew ?_ | refine blk_alloc ?_ _)); exact aa.out) hb); replace HB := Aside0.mk (below_step (by repeat (first | (with_reducible first | exact HB.out | apply below_alloc | apply pw_below_drewN | apply below_drew1 | refine below_set ?_ ae.out) | exact HB.out)) hb); (try clear hb); (try clear hb2); (try clear hk); (try clear hi)))
  (try simp only [Act.put, List.setIfInBounds_toArray, List.set_cons_zero, List.set_cons_succ])
  go_cut [13] (fun v13 wc => ∃ (kq : Nat) (x13_3 : Bool), v13 = .bool x13_3 ∧ Aside0 (whirligigref03_Text.j0 kq x13_3 ac ad = some r) ∧ Aside0 (kq ≤ k) ∧ Aside0 (wc.heap[ab]? = some (.cells #[.int .i64 ac, .int .i64 ad] 63 (0, 0))) ∧ Aside0 (Below w.heap.size w wc))
  case first =>
   have H := HC4.out
   clear HC4
   by_cases c8 : ac = 65535
   ·rw [if_pos c8] at H
    have c8b0 : (ac == 65535) = true := beq_iff_eq.mpr c8
    have c8b1 : (ac != 65535) = false := bne_eq_false_iff_eq.mpr c8
    clear c8
    (first | rw [c8b0] | (simp only [i64_w, i32_w]; rw [c8b0]) | skip)
    have H' := Aside0.mk H
    clear H
    have hcz9_0 : w7.cell? ⟨ab, 0, none⟩ = some (.int .i64 ac) := (blk_cell aa.out 0).trans rfl
    have hcz9_1 : w7.cell? ⟨ab, 1, none⟩ = some (.int .i64 ad) := (blk_cell aa.out 1).trans rfl
    have hfz9_0 := blk_frozen aa.out 0
    have hfz9_1 := blk_frozen aa.out 1
    go_wp2
    go_meet
    case rel => exact ⟨_, ((ad == 65281)), (by first | rfl | (simp; done) | (simp [*]; done)), H', ⟨by first | omega | exact Nat.le_refl _⟩, ⟨by (with_reducible repeat (first | refine blk_drewN ?_ _ | refine blk_drew ?_ | refine blk_alloc ?_ _)); exact aa.out⟩, ⟨by repeat (first | (with_reducible first | exact HB.out | apply below_alloc | apply pw_below_drewN | apply below_drew1 | refine below_set ?_ ae.out) | exact HB.out)⟩⟩
   ·rw [if_neg c8] at H
    have c8b0 : (ac == 65535) = false := beq_eq_false_iff_ne.mpr c8
    have c8b1 : (ac != 65535) = true := bne_iff_ne.mpr c8
    (first | rw [c8b0] | (simp only [i64_w, i32_w]; rw [c8b0]) | skip)
    have H' := Aside0.mk H
    clear H
    have hcz10_0 : w7.cell? ⟨ab, 0, none⟩ = some (.int .i64 ac) := (blk_cell aa.out 0).trans rfl
    have hcz10_1 : w7.cell? ⟨ab, 1, none⟩ = some (.int .i64 ad) := (blk_cell aa.out 1).trans rfl
    have hfz10_0 := blk_frozen aa.out 0
    have hfz10_1 := blk_frozen aa.out 1
    go_wp2
    go_meet
    case rel => exact ⟨_, (false), (by first | rfl | (simp; done) | (simp [*]; done)), H', ⟨by first | omega | exact Nat.le_refl _⟩, ⟨by (with_reducible repeat (first | refine blk_drewN ?_ _ | refine blk_drew ?_ | refine blk_alloc ?_ _)); exact aa.out⟩, ⟨by repeat (first | (with_reducible first | exact HB.out | apply below_alloc | apply pw_below_drewN | apply below_drew1 | refine below_set ?_ ae.out) | exact HB.out)⟩⟩
  case rest =>
   clear HC4
   try clear p2
   try clear c3
   try clear c5
   try clear c7
   try clear c8
   try clear c8b0
   try clear c8b1
   try clear hcz10_0
   try clear hcz10_1
   try clear hcz6_0
   try clear hcz6_1
   try clear hcz9_0
   try clear hcz9_1
   try clear hfz10_0
   try clear hfz10_1
   try clear hfz6_0
   try clear hfz6_1
   try clear hfz9_0
   try clear hfz9_1
   obtain ⟨kq, x13_3, rfl, HA, HJ3, aa, HB⟩ := hcut
   cases kq with
   | zero => exact absurd HA.out (by simp [whirligigref03_Text.j0])
   | succ kj3 =>
    have H := HA.out
    clear HA
    simp only [whirligigref03_Text.j0] at H
    by_cases c11 : x13_3 = true
    ·subst c11
     have H1 : (some (⟨#[110, 111, 45, 101, 120, 112, 111, 114, 116]⟩ : ByteArray)) = some r := by rw [if_pos rfl] at H; exact H
     clear H
     have H := H1
     clear H1
     obtain rfl := Option.some.inj H
     go_wp2
     go_ret
     exact ⟨by first | rfl | (simp [errW_none, errW_some] <;> rfl) | (simp [*, errW_none, errW_some] <;> rfl), by repeat (first | (with_reducible first | exact HB.out | apply below_alloc | apply pw_below_drewN | apply below_drew1 | refine below_set ?_ ae.out) | exact HB.out)⟩
    ·replace c11 := Bool.eq_false_iff.mpr c11
     subst c11
     have H1 := H
     rw [if_neg (show ¬ (false = true) by decide)] at H1
     clear H
     have H := H1
     clear H1
     have HC12 := Aside0.mk H
     clear H
     go_upto_region 5 with (fail)
     go_cut [21] (fun v21 wc => ∃ (kq : Nat) (x21_11 : Bool), v21 = .bool x21_11 ∧ Aside0 (whirligigref03_Text.j1 kq x21_11 ac ad = some r) ∧ Aside0 (kq ≤ kj3) ∧ Aside0 (wc.heap[ab]? = some (.cells #[.int .i64 ac, .int .i64 ad] 63 (0, 0))) ∧ Aside0 (Below w.heap.size w wc))
     case first =>
      have H := HC12.out
      clear HC12
      by_cases af : ac = 65535
      ·rw [if_pos af] at H
       have c13b0 : (ac == 65535) = true := beq_iff_eq.mpr af
       have c13b1 : (ac != 65535) = false := bne_eq_false_iff_eq.mpr af
       clear af
       (first | rw [c13b0] | (simp only [i64_w, i32_w]; rw [c13b0]) | skip)
       have H' := Aside0.mk H
       clear H
       have hcz14_0 : wc.cell? ⟨ab, 0, none⟩ = some (.int .i64 ac) := (blk_cell aa.out 0).trans rfl
       have hcz14_1 : wc.cell? ⟨ab, 1, none⟩ = some (.int .i64 ad) := (blk_cell aa.out 1).trans rfl
       have hfz14_0 := blk_frozen aa.out 0
       have hfz14_1 := blk_frozen aa.out 1
       go_wp2
       go_meet
       case rel => exact ⟨_, ((ad == 65282)), (by first | rfl | (simp; done) | (simp [*]; done)), H', ⟨by have := HJ3.out; first | omega | exact Nat.le_refl _⟩, ⟨by (with_reducible repeat (first | refine blk_drewN ?_ _ | refine blk_drew ?_ | refine blk_alloc ?_ _)); exact aa.out⟩, ⟨by repeat (first | (with_reducible first | exact HB.out | apply below_alloc | apply pw_below_drewN | apply below_drew1 | refine below_set ?_ ae.out) | exact HB.out)⟩⟩
      ·rw [if_neg af] at H
       have c13b0 : (ac == 65535) = false := beq_eq_false_iff_ne.mpr af
       have c13b1 : (ac != 65535) = true := bne_iff_ne.mpr af
       (first | rw [c13b0] | (simp only [i64_w, i32_w]; rw [c13b0]) | skip)
       have H' := Aside0.mk H
       clear H
       have hcz15_0 : wc.cell? ⟨ab, 0, none⟩ = some (.int .i64 ac) := (blk_cell aa.out 0).trans rfl
       have hcz15_1 : wc.cell? ⟨ab, 1, none⟩ = some (.int .i64 ad) := (blk_cell aa.out 1).trans rfl
       have hfz15_0 := blk_frozen aa.out 0
       have hfz15_1 := blk_frozen aa.out 1
       go_wp2
       go_meet
       case rel => exact ⟨_, (false), (by first | rfl | (simp; done) | (simp [*]; done)), H', ⟨by have := HJ3.out; first | omega | exact Nat.le_refl _⟩, ⟨by (with_reducible repeat (first | refine blk_drewN ?_ _ | refine blk_drew ?_ | refine blk_alloc ?_ _)); exact aa.out⟩, ⟨by repeat (first | (with_reducible first | exact HB.out | apply below_alloc | apply pw_below_drewN | apply below_drew1 | refine below_set ?_ ae.out) | exact HB.out)⟩⟩
     case rest =>
      clear HC12
      try clear c1
      try clear p2
      try clear c3
      try clear c5
      try clear c7
      try clear c8
      try clear c8b0
      try clear c8b1
      try clear c11
      try clear af
      try clear c13b0
      try clear c13b1
      try clear hcz10_0
      try clear hcz10_1
      try clear hcz14_0
      try clear hcz14_1
      try clear hcz15_0
      try clear hcz15_1
      try clear hcz6_0
      try clear hcz6_1
      try clear hcz9_0
      try clear hcz9_1
      try clear hfz10_0
      try clear hfz10_1
      try clear hfz14_0
      try clear hfz14_1
      try clear hfz15_0
      try clear hfz15_1
      try clear hfz6_0
      try clear hfz6_1
      try clear hfz9_0
      try clear hfz9_1
      try clear p2
      obtain ⟨kq, x21_11, rfl, HA, HJ11, aa, HB⟩ := hcut
      cases kq with
      | zero => exact absurd HA.out (by simp [whirligigref03_Text.j1])
      | succ kj11 =>
       have H := HA.out
       clear HA
       simp only [whirligigref03_Text.j1] at H
       by_cases c16 : x21_11 = true
       ·subst c16
        have H1 : (some (⟨#[110, 111, 45, 97, 100, 118, 101, 114, 116, 105, 115, 101]⟩ : ByteArray)) = some r := by rw [if_pos rfl] at H; exact H
        clear H
        have H := H1
        clear H1
        obtain rfl := Option.some.inj H
        go_wp2
        go_ret
        exact ⟨by first | rfl | (simp [errW_none, errW_some] <;> rfl) | (simp [*, errW_none, errW_some] <;> rfl), by repeat (first | (with_reducible first | exact HB.out | apply below_alloc | apply pw_below_drewN | apply below_drew1 | refine below_set ?_ ae.out) | exact HB.out)⟩
       ·replace c16 := Bool.eq_false_iff.mpr c16
        subst c16
        have H1 := H
        rw [if_neg (show ¬ (false = true) by decide)] at H1
        clear H
        have H := H1
        clear H1
        have HC17 := Aside0.mk H
        clear H
        go_upto_region 7 with (fail)
        go_cut [29] (fun v29 wc => ∃ (kq : Nat) (x29_16 : Bool), v29 = .bool x29_16 ∧ Aside0 (whirligigref03_Text.j2 kq x29_16 ac ad = some r) ∧ Aside0 (kq ≤ kj11) ∧ Aside0 (wc.heap[ab]? = some (.cells #[.int .i64 ac, .int .i64 ad] 63 (0, 0))) ∧ Aside0 (Below w.heap.size w wc))
        case first =>
         have H := HC17.out
         clear HC17
         by_cases ag : ac = 65535
         ·rw [if_pos ag] at H
          have c18b0 : (ac == 65535) = true := beq_iff_eq.mpr ag
          have c18b1 : (ac != 65535) = false := bne_eq_false_iff_eq.mpr ag
          clear ag
          (first | rw [c18b0] | (simp only [i64_w, i32_w]; rw [c18b0]) | skip)
          have H' := Aside0.mk H
          clear H
          have hcz19_0 : wc.cell? ⟨ab, 0, none⟩ = some (.int .i64 ac) := (blk_cell aa.out 0).trans rfl
          have hcz19_1 : wc.cell? ⟨ab, 1, none⟩ = some (.int .i64 ad) := (blk_cell aa.out 1).trans rfl
          have hfz19_0 := blk_frozen aa.out 0
          have hfz19_1 := blk_frozen aa.out 1
          go_wp2
          go_meet
          case rel => exact ⟨_, ((ad == 65283)), (by first | rfl | (simp; done) | (simp [*]; done)), H', ⟨by have := HJ3.out; have := HJ11.out; first | omega | exact Nat.le_refl _⟩, ⟨by (with_reducible repeat (first | refine blk_drewN ?_ _ | refine blk_drew ?_ | refine blk_alloc ?_ _)); exact aa.out⟩, ⟨by repeat (first | (with_reducible first | exact HB.out | apply below_alloc | apply pw_below_drewN | apply below_drew1 | refine below_set ?_ ae.out) | exact HB.out)⟩⟩
         ·rw [if_neg ag] at H
          have c18b0 : (ac == 65535) = false := beq_eq_false_iff_ne.mpr ag
          have c18b1 : (ac != 65535) = true := bne_iff_ne.mpr ag
          (first | rw [c18b0] | (simp only [i64_w, i32_w]; rw [c18b0]) | skip)
          have H' := Aside0.mk H
          clear H
          have hcz20_0 : wc.cell? ⟨ab, 0, none⟩ = some (.int .i64 ac) := (blk_cell aa.out 0).trans rfl
          have hcz20_1 : wc.cell? ⟨ab, 1, none⟩ = some (.int .i64 ad) := (blk_cell aa.out 1).trans rfl
          have hfz20_0 := blk_frozen aa.out 0
          have hfz20_1 := blk_frozen aa.out 1
          go_wp2
          go_meet
          case rel => exact ⟨_, (false), (by first | rfl | (simp; done) | (simp [*]; done)), H', ⟨by have := HJ3.out; have := HJ11.out; first | omega | exact Nat.le_refl _⟩, ⟨by (with_reducible repeat (first | refine blk_drewN ?_ _ | refine blk_drew ?_ | refine blk_alloc ?_ _)); exact aa.out⟩, ⟨by repeat (first | (with_reducible first | exact HB.out | apply below_alloc | apply pw_below_drewN | apply below_drew1 | refine below_set ?_ ae.out) | exact HB.out)⟩⟩
        case rest =>
         clear HC17
         try clear c1
         try clear p2
         try clear c3
         try clear c5
         try clear c7
         try clear c8
         try clear c8b0
         try clear c8b1
         try clear c11
         try clear af
         try clear c13b0
         try clear c13b1
         try clear c16
         try clear ag
         try clear c18b0
         try clear c18b1
         try clear hcz10_0
         try clear hcz10_1
         try clear hcz14_0
         try clear hcz14_1
         try clear hcz15_0
         try clear hcz15_1
         try clear hcz19_0
         try clear hcz19_1
         try clear hcz20_0
         try clear hcz20_1
         try clear hcz6_0
         try clear hcz6_1
         try clear hcz9_0
         try clear hcz9_1
         try clear hfz10_0
         try clear hfz10_1
         try clear hfz14_0
         try clear hfz14_1
         try clear hfz15_0
         try clear hfz15_1
         try clear hfz19_0
         try clear hfz19_1
         try clear hfz20_0
         try clear hfz20_1
         try clear hfz6_0
         try clear hfz6_1
         try clear hfz9_0
         try clear hfz9_1
         try clear p2
         obtain ⟨kq, x29_16, rfl, HA, HJ16, aa, HB⟩ := hcut
         cases kq with
         | zero => exact absurd HA.out (by simp [whirligigref03_Text.j2])
         | succ kj16 =>
          have H := HA.out
          clear HA
          simp only [whirligigref03_Text.j2] at H
          by_cases c21 : x29_16 = true
          ·subst c21
           have H1 : (some (⟨#[108, 111, 99, 97, 108]⟩ : ByteArray)) = some r := by rw [if_pos rfl] at H; exact H
           clear H
           have H := H1
           clear H1
           obtain rfl := Option.some.inj H
           go_wp2
           go_ret
           exact ⟨by first | rfl | (simp [errW_none, errW_some] <;> rfl) | (simp [*, errW_none, errW_some] <;> rfl), by repeat (first | (with_reducible first | exact HB.out | apply below_alloc | apply pw_below_drewN | apply below_drew1 | refine below_set ?_ ae.out) | exact HB.out)⟩
          ·replace c21 := Bool.eq_false_iff.mpr c21
           subst c21
           have H1 := H
           rw [if_neg (show ¬ (false = true) by decide)] at H1
           clear H
           have H := H1
           clear H1
           replace H := Option.bind_eq_some_iff.mp H
           obtain ⟨t290, A220, H⟩ := H
           (try dsimp only at H)
           have A22 := Aside0.mk A220
           clear A220
           by_cases c23 : t290.size + 1 ≤ 9223372036854775807
           ·rw [if_pos c23] at H
            have c23b0 := eq_true c23
            have c23b1 : decide (t290.size + 1 ≤ 9223372036854775807) = true := decide_eq_true c23
            try have c23b2 : (9223372036854775807 < t290.size + 1) = False := eq_false (Nat.not_lt.2 c23)
            replace H := Option.bind_eq_some_iff.mp H
            obtain ⟨t291, A240, H⟩ := H
            (try dsimp only at H)
            have A24 := Aside0.mk A240
            clear A240
            by_cases c25 : (t290 ++ (⟨#[58]⟩ : ByteArray)).size + t291.size ≤ 9223372036854775807
            ·rw [if_pos c25] at H
             have c25b0 := eq_true c25
             have c25b1 : decide ((t290 ++ (⟨#[58]⟩ : ByteArray)).size + t291.size ≤ 9223372036854775807) = true := decide_eq_true c25
             try have c25b2 : (9223372036854775807 < (t290 ++ (⟨#[58]⟩ : ByteArray)).size + t291.size) = False := eq_false (Nat.not_lt.2 c25)
             try have c25b3 : (9223372036854775807 < t290.size + 1 + t291.size) = False := eq_false (Nat.not_lt.2 (by have h_ := c25; simp only [ByteArray.size_append] at h_; exact h_))
             obtain rfl := Option.some.inj H
             try go_wp2
             replace aa := Aside0.mk (blk_drew aa.out)
             replace HB := Aside0.mk (below_drew1 HB.out)
             refine start_ (n := 9) (S := k5a8a.S0 ab (.int .i64 ac) (.int .i64 ad)) (ds := []) #[false, false, false, false, false, false, false, false, false] (by kernel_rfl) rfl rfl (k5a8a.b2e aa.out) (fun hHeld => ?_); refine with_tabW whirligigref03_Text.tab9 whirligigref03_Text.bits9 (fun HT_ HW_ => ?_)
             generalize wc.drew = w26 at aa HB hHeld ⊢
             refine pure_ (i := 0) (N := some 30) (v := ?_) (a' := ?_) #[true, false, false, false, false, false, false, false, false] rfl rfl (any_of HT_.out (by kernel_rfl)) (fun _ _ _ h => h) (Or.inl ⟨by rfl, ?_⟩) ?_ ?_
             rotate_left
             ·intro w'
              go_simp
              with_reducible rfl
             rotate_left
             ·simp only [Act.put, List.setIfInBounds_toArray, List.set_cons_zero, List.set_cons_succ, i64_w, i32_w]
              rfl
             refine pure_ (i := 4) (N := some 34) (v := ?_) (a' := ?_) #[true, false, false, false, true, false, false, false, false] rfl rfl (any_of HT_.out (by kernel_rfl)) (fun _ _ _ h => h) (Or.inl ⟨by rfl, ?_⟩) ?_ ?_
             rotate_left
             ·intro w'
              go_simp
              with_reducible rfl
             rotate_left
             ·simp only [Act.put, List.setIfInBounds_toArray, List.set_cons_zero, List.set_cons_succ, i64_w, i32_w]
              rfl
             refine take_ (i := 1) (N := some 31) (v := ?_) (a' := ?_) #[true, true, false, false, true, false, false, false, false] rfl rfl (take_ofW HT_.out HW_.out (by kernel_rfl)) (fun _ _ _ h => h) (Or.inl ⟨by rfl, ?_⟩) hHeld ?_ ?_
             rotate_left
             ·rintro w' ⟨s0, s1⟩
              go_simp
              with_reducible rfl
             rotate_left
             ·simp only [Act.put, List.setIfInBounds_toArray, List.set_cons_zero, List.set_cons_succ, i64_w, i32_w]
              rfl
             refine take_ (i := 5) (N := some 35) (v := ?_) (a' := ?_) #[true, true, false, false, true, true, false, false, false] rfl rfl (take_ofW HT_.out HW_.out (by kernel_rfl)) (fun _ _ _ h => h) (Or.inl ⟨by rfl, ?_⟩) hHeld ?_ ?_
             rotate_left
             ·rintro w' ⟨s0, s1⟩
              go_simp
              with_reducible rfl
             rotate_left
             ·simp only [Act.put, List.setIfInBounds_toArray, List.set_cons_zero, List.set_cons_succ, i64_w, i32_w]
              rfl
             refine one_ (i := 2) (N := some 32) #[true, true, true, false, true, true, false, false, false] rfl rfl (one_of HT_.out (by kernel_rfl)) (by decide) (fun K hK => ?_)
             refine goes_ Try.func47 (by kernel_rfl) rfl #[.int .i64 ac] (by rfl) rfl rfl (by (try simp only [List.map_toArray, List.map_cons, List.map_nil]); first | done | rfl) ?_
             with_reducible refine (whirligigref01_Number.calls kj16 ac t290 _ A22.out).mono ?_
             rintro e w27 ⟨rfl, hb⟩
             refine ⟨_, rfl, ?_⟩
             replace aa := Aside0.mk (blk_below (g := ab) (by (with_reducible repeat (first | refine blk_drewN ?_ _ | refine blk_drew ?_ | refine blk_alloc ?_ _)); exact aa.out) hb)
             replace HB := Aside0.mk (below_step (by repeat (first | (with_reducible first | exact HB.out | apply below_alloc | apply pw_below_drewN | apply below_drew1 | refine below_set ?_ ae.out) | exact HB.out)) hb)
             (try clear hb)
             (try clear hb2)
             (try clear hk)
             (try clear hi)
             refine hK.out _ _ (k5a8a.b2e aa.out) (fun hHeld => ?_)
             clear hK K
             refine norm_ (a' := ?_) ?_ ?_
             rotate_left
             ·show Act.put _ (some 32) _ = _
              simp only [Act.put, List.setIfInBounds_toArray, List.set_cons_zero, List.set_cons_succ, i64_w, i32_w]
              rfl
             refine pure_ (i := 3) (N := some 33) (v := ?_) (a' := ?_) #[true, true, true, true, true, true, false, false, false] rfl rfl (any_of HT_.out (by kernel_rfl)) (fun _ _ _ h => h) (Or.inl ⟨by rfl, ?_⟩) ?_ ?_
             rotate_left
             ·intro w'
              go_simp
              with_reducible rfl
             rotate_left
             ·simp only [Act.put, List.setIfInBounds_toArray, List.set_cons_zero, List.set_cons_succ, i64_w, i32_w]
              rfl
             refine one_ (i := 6) (N := some 36) #[true, true, true, true, true, true, true, false, false] rfl rfl (one_of HT_.out (by kernel_rfl)) (by decide) (fun K hK => ?_)
             refine goes_ Try.func47 (by kernel_rfl) rfl #[.int .i64 ad] (by rfl) rfl rfl (by (try simp only [List.map_toArray, List.map_cons, List.map_nil]); first | done | rfl) ?_
             with_reducible refine (whirligigref01_Number.calls kj16 ad t291 _ A24.out).mono ?_
             rintro e w28 ⟨rfl, hb⟩
             refine ⟨_, rfl, ?_⟩
             replace aa := Aside0.mk (blk_below (g := ab) (by (with_reducible repeat (first | refine blk_drewN ?_ _ | refine blk_drew ?_ | refine blk_alloc ?_ _)); exact aa.out) hb)
             replace HB := Aside0.mk (below_step (by repeat (first | (with_reducible first | exact HB.out | apply below_alloc | apply pw_below_drewN | apply below_drew1 | refine below_set ?_ ae.out) | exact HB.out)) hb)
             (try clear hb)
             (try clear hb2)
             (try clear hk)
             (try clear hi)
             refine hK.out _ _ (k5a8a.b2e aa.out) (fun hHeld => ?_)
             clear hK K
             refine norm_ (a' := ?_) ?_ ?_
             rotate_left
             ·show Act.put _ (some 36) _ = _
              simp only [Act.put, List.setIfInBounds_toArray, List.set_cons_zero, List.set_cons_succ, i64_w, i32_w]
              rfl
             refine pure_ (i := 7) (N := some 37) (v := ?_) (a' := ?_) #[true, true, true, true, true, true, true, true, false] rfl rfl (any_of HT_.out (by kernel_rfl)) (fun _ _ _ h => h) (Or.inl ⟨by rfl, ?_⟩) ?_ ?_
             rotate_left
             ·intro w'
              go_simp
              with_reducible rfl
             rotate_left
             ·simp only [Act.put, List.setIfInBounds_toArray, List.set_cons_zero, List.set_cons_succ, i64_w, i32_w]
              rfl
             refine pure_ (i := 8) (N := some 2) (v := ?_) (a' := ?_) #[true, true, true, true, true, true, true, true, true] rfl rfl (any_of HT_.out (by kernel_rfl)) (fun _ _ _ h => h) (Or.inl ⟨by rfl, ?_⟩) ?_ ?_
             rotate_left
             ·intro w'
              go_simp
              with_reducible rfl
             rotate_left
             ·simp only [Act.put, List.setIfInBounds_toArray, List.set_cons_zero, List.set_cons_succ, i64_w, i32_w]
              rfl
             refine done_ (done_of HT_.out (by kernel_rfl)) ?_
             try go_wp2
             go_ret
             exact ⟨by first | rfl | (simp [errW_none, errW_some] <;> rfl) | (simp [*, errW_none, errW_some] <;> rfl), by repeat (first | (with_reducible first | exact HB.out | apply below_alloc | apply pw_below_drewN | apply below_drew1 | refine below_set ?_ ae.out) | exact HB.out)⟩
            ·rw [if_neg c25] at H
             exact absurd H (by simp)
           ·rw [if_neg c23] at H
            exact absurd H (by simp)
 ·replace c3 := Bool.eq_false_iff.mpr c3
  subst c3
  have H1 : (some (⟨#[]⟩ : ByteArray)) = some r := by rw [if_neg (show ¬ (false = true) by decide)] at H; exact H
  clear H
  have H := H1
  clear H1
  obtain rfl := Option.some.inj H
  go_enter Try.func75, Try.ntmps75
  go_wp2_with (first | ((with_reducible refine gate_dst (N := 1) rfl ?_); refine box_event ?hg (N := 1) ?hd (cs := #[.int .i64 ac, .int .i64 ad]) (t := 63) ?hr ?_; (case hd => rfl); (case hg => rfl); (case hr => first | (go_simp; done) | (go_simp; rfl)); intro ab hg w29 hbox hb; have n0_ := Aside0.mk (below_step (by repeat (first | (with_reducible first | exact HB.out | apply below_alloc | apply pw_below_drewN | apply below_drew1) | exact HB.out)) hb); have n1_ := Aside0.mk (hbox); have n2_ := Aside0.mk ((by rw [hg]; exact (below_size (by repeat (first | (with_reducible first | exact HB.out | apply below_alloc | apply pw_below_drewN | apply below_drew1) | exact HB.out))) : w.heap.size ≤ ab)); have n3_ := Aside0.mk ((by rw [hg]; exact (below_size (by repeat (first | (with_reducible first | exact HB.out | apply below_alloc | apply pw_below_drewN | apply below_drew1) | exact HB.out))) : w.heap.size ≤ ab)); clear HB; have HB := n0_; have aa := n1_; have GW288 := n2_; have ae := n3_; clear n0_ n1_ n2_ n3_; clear hb hbox hg; have hcz30_0 : w29.cell? ⟨ab, 0, none⟩ = some (.int .i64 ac) := (blk_cell aa.out 0).trans rfl; have hcz30_1 : w29.cell? ⟨ab, 1, none⟩ = some (.int .i64 ad) := (blk_cell aa.out 1).trans rfl; have hfz30_0 := blk_frozen aa.out 0; have hfz30_1 := blk_frozen aa.out 1) | ((with_reducible refine gate_callee (f := 58) rfl ?_); refine goesL_ (some 4) rfl rfl Try.func58 (by kernel_rfl) rfl #[.agg #[.int .i64 ac, .int .i64 ad]] rfl (by (try simp only [List.map_toArray, List.map_cons, List.map_nil]); first | done | rfl) ?_; (with_reducible refine (whirligigref03_May.calls ac ad false _ A2.out).mono ?_); rintro e w31 ⟨rfl, hb⟩; refine ⟨_, rfl, ?_⟩; replace aa := Aside0.mk (blk_below (g := ab) (by (with_reducible repeat (first | refine blk_drewN ?_ _ | refine blk_drew ?_ | refine blk_alloc ?_ _)); exact aa.out) hb); replace HB := Aside0.mk (below_step (by repeat (first | (with_reducible first | exact HB.out | apply below_alloc | apply pw_below_drewN | apply below_drew1 | refine below_set ?_ ae.out) | exact HB.out)) hb); (try clear hb); (try clear hb2); (try clear hk); (try clear hi)))
  go_ret
  exact ⟨by first | rfl | (simp [errW_none, errW_some] <;> rfl) | (simp [*, errW_none, errW_some] <;> rfl), by repeat (first | (with_reducible first | exact HB.out | apply below_alloc | apply pw_below_drewN | apply below_drew1 | refine below_set ?_ ae.out) | exact HB.out)⟩

/-! ### whirligigref03_Texts: function 49 -/
def whirligigref03_Texts.l0 : Nat → List (S63) → ByteArray → Int → Option (ByteArray)
  | 0, _, _, _ => none
  | k + 1, x0, x3, x4 => if x4 < (x0.length : Int) then (if x4 > 0 then (if x3.size + 1 ≤ 9223372036854775807 then (if 0 ≤ x4 then ((whirligigref03_Text.f k ((rd_T63 x0 x4).f0) ((rd_T63 x0 x4).f1)).bind fun t294 => (if (x3 ++ (⟨#[32]⟩ : ByteArray)).size + t294.size ≤ 9223372036854775807 then (whirligigref03_Texts.l0 k x0 ((x3 ++ (⟨#[32]⟩ : ByteArray)) ++ t294) (wrap64 (x4 + 1))) else (none))) else (none)) else (none)) else (if 0 ≤ x4 then ((whirligigref03_Text.f k ((rd_T63 x0 x4).f0) ((rd_T63 x0 x4).f1)).bind fun t296 => (if x3.size + t296.size ≤ 9223372036854775807 then (whirligigref03_Texts.l0 k x0 (x3 ++ t296) (wrap64 (x4 + 1))) else (none))) else (none))) else (some x3)
def whirligigref03_Texts.f (k : Nat) (l0 : List (S63)) : Option (ByteArray) := (whirligigref03_Set.f k l0).bind fun t292 => (if t292 = true then (whirligigref03_Texts.l0 k l0 (⟨#[]⟩ : ByteArray) 0) else (some (⟨#[]⟩ : ByteArray)))
theorem whirligigref03_Texts.mono_l : ∀ k, (∀ y0 y1 y2, LeO (whirligigref03_Texts.l0 k y0 y1 y2) (whirligigref03_Texts.l0 (k + 1) y0 y1 y2))
  | 0 => fun _ _ _ r h => by simp [whirligigref03_Texts.l0] at h
  | k + 1 => by
    have ih0 := whirligigref03_Texts.mono_l k
    · intro y0 y1 y2
      unfold whirligigref03_Texts.l0
      repeat' first
      | (with_reducible exact ih0 _ _ _)
      | (with_reducible exact whirligigref03_Set.mono _ _)
      | (with_reducible exact whirligigref03_Text.mono _ _ _)
      | (with_reducible exact LeO.refl _)
      | (with_reducible exact LeO.none _)
      | (with_reducible refine LeO.ite ?_ ?_)
      | (with_reducible refine LeO.bind ?_ (fun _ => ?_))
      | exact ih0 _ _ _
      | exact whirligigref03_Set.mono _ _
      | exact whirligigref03_Text.mono _ _ _
      | exact LeO.none _
      | refine LeO.ite ?_ ?_
      | refine LeO.bind ?_ (fun _ => ?_)
theorem whirligigref03_Texts.mono : ∀ a0 k, LeO (whirligigref03_Texts.f k a0) (whirligigref03_Texts.f (k + 1) a0) := by
  intro a0 k
  have ih0 := whirligigref03_Texts.mono_l k
  unfold whirligigref03_Texts.f
  repeat' first
      | (with_reducible exact ih0 _ _ _)
      | (with_reducible exact whirligigref03_Set.mono _ _)
      | (with_reducible exact whirligigref03_Text.mono _ _ _)
      | (with_reducible exact LeO.refl _)
      | (with_reducible exact LeO.none _)
      | (with_reducible refine LeO.ite ?_ ?_)
      | (with_reducible refine LeO.bind ?_ (fun _ => ?_))
      | exact ih0 _ _ _
      | exact whirligigref03_Set.mono _ _
      | exact whirligigref03_Text.mono _ _ _
      | exact LeO.none _
      | refine LeO.ite ?_ ?_
      | refine LeO.bind ?_ (fun _ => ?_)
set_option maxHeartbeats 8000000 in
set_option maxRecDepth 100000 in
theorem whirligigref03_Texts.calls (k : Nat) (A0 : Option Addr) (c0 : Nat) (l0 : List (S63)) (r : ByteArray) (w : World) (hr0 : Kd.C k63 w A0 l0.length l0) (hc0 : l0.length ≤ c0) (h : whirligigref03_Texts.f k l0 = some r) :
  Calls Try.prog 49 #[.slice A0 l0.length c0] w fun e w' => e = .returned (.string r) ∧ Below w.heap.size w w' := by
 have hu63 := Try.underlying63
 have HR0 := Aside0.mk hr0
 have HC0 := Aside0.mk hc0
 clear hr0 hc0
 have HB := Aside0.mk (Below.refl w.heap.size w)
 have H : ((whirligigref03_Set.f k l0).bind fun t292 => (if t292 = true then (whirligigref03_Texts.l0 k l0 (⟨#[]⟩ : ByteArray) 0) else (some (⟨#[]⟩ : ByteArray)))) = some r := h
 clear h
 replace H := Option.bind_eq_some_iff.mp H
 obtain ⟨t292, A20, H⟩ := H
 (try dsimp only at H)
 have A2 := Aside0.mk A20
 clear A20
 by_cases c3 : t292 = true
 ·subst c3
  have H1 : (whirligigref03_Texts.l0 k l0 (⟨#[]⟩ : ByteArray) 0) = some r := by rw [if_pos rfl] at H; exact H
  clear H
  have H := H1
  clear H1
  have H' := Aside0.mk H
  clear H
  go_enter Try.func49, Try.ntmps49
  go_wp2_with (first | ((with_reducible refine gate_callee (f := 45) rfl ?_); refine goesL_ (some 6) rfl rfl Try.func45 (by kernel_rfl) rfl #[.slice A0 l0.length c0] rfl (by (try simp only [List.map_toArray, List.map_cons, List.map_nil]); first | done | rfl) ?_; (with_reducible refine (whirligigref03_Set.calls k _ _ l0 true _ ?side1 ?side2 A2.out).mono ?_); (case side1 => repeat (first | exact HR0.out | (with_reducible refine Kd.C_alloc ?_ _) | (with_reducible refine Kd.C_drewN ?_ _) | (with_reducible refine Kd.C_drew ?_))); (case side2 => exact HC0.out); rintro e w4 ⟨rfl, hb⟩; refine ⟨_, rfl, ?_⟩; replace HB := Aside0.mk (below_step (by repeat (first | (with_reducible first | exact HB.out | apply below_alloc | apply pw_below_drewN | apply below_drew1) | exact HB.out)) hb); (try clear hb); (try clear hb2); (try clear hk); (try clear hi)))
  go_loopg [3, 4] k (fun kq v3 v4 w' => ∃ (x3_1 : ByteArray) (x4_1 : Int), v3 = .string x3_1 ∧ v4 = .int .i64 x4_1 ∧ Aside0 (whirligigref03_Texts.l0 kq l0 x3_1 x4_1 = some r) ∧ Aside0 (kq ≤ k) ∧ Aside0 (Below w.heap.size w w'))
  case atStart => exact ⟨((⟨#[]⟩ : ByteArray)), (0), (by first | rfl | (simp; done) | (simp [*]; done)), (by first | rfl | (simp; done) | (simp [*]; done)), H', ⟨Nat.le_refl _⟩, ⟨by repeat (first | (with_reducible first | exact HB.out | apply below_alloc | apply pw_below_drewN | apply below_drew1) | exact HB.out)⟩⟩
  case round =>
   clear H'
   try clear p2
   try clear c3
   try clear c4
   obtain ⟨x3_1, x4_1, rfl, rfl, HA, HK1, HB⟩ := hrel
   cases gk with
   | zero => exact absurd HA.out (by simp [whirligigref03_Texts.l0])
   | succ k1 =>
    have H := HA.out
    clear HA
    simp only [whirligigref03_Texts.l0] at H
    by_cases c5 : x4_1 < (l0.length : Int)
    ·rw [if_pos c5] at H
     have c5b0 : decide (x4_1 < (l0.length : Int)) = true := decide_eq_true c5
     clear c5
     by_cases c6 : x4_1 > 0
     ·rw [if_pos c6] at H
      have c6b0 : decide (0 < x4_1) = true := decide_eq_true c6
      clear c6
      by_cases c7 : x3_1.size + 1 ≤ 9223372036854775807
      ·rw [if_pos c7] at H
       have c7b0 := eq_true c7
       have c7b1 : decide (x3_1.size + 1 ≤ 9223372036854775807) = true := decide_eq_true c7
       try have c7b2 : (9223372036854775807 < x3_1.size + 1) = False := eq_false (Nat.not_lt.2 c7)
       by_cases c8 : 0 ≤ x4_1
       ·rw [if_pos c8] at H
        have c8b0 : decide (0 ≤ x4_1) = true := decide_eq_true c8
        clear c8
        replace H := Option.bind_eq_some_iff.mp H
        obtain ⟨t294, A90, H⟩ := H
        (try dsimp only at H)
        have A9 := Aside0.mk A90
        clear A90
        by_cases c10 : (x3_1 ++ (⟨#[32]⟩ : ByteArray)).size + t294.size ≤ 9223372036854775807
        ·rw [if_pos c10] at H
         have c10b0 := eq_true c10
         have c10b1 : decide ((x3_1 ++ (⟨#[32]⟩ : ByteArray)).size + t294.size ≤ 9223372036854775807) = true := decide_eq_true c10
         try have c10b2 : (9223372036854775807 < (x3_1 ++ (⟨#[32]⟩ : ByteArray)).size + t294.size) = False := eq_false (Nat.not_lt.2 c10)
         try have c10b3 : (9223372036854775807 < x3_1.size + 1 + t294.size) = False := eq_false (Nat.not_lt.2 (by have h_ := c10; simp only [ByteArray.size_append] at h_; exact h_))
         have H' := Aside0.mk H
         clear H
         have p293 : 0 ≤ (x4_1 : Int) := of_decide_eq_true (by first | (with_reducible assumption) | assumption)
         have q293 : x4_1 < (l0.length : Int) := of_decide_eq_true (by first | (with_reducible assumption) | assumption)
         obtain ⟨ad293, e293, hx293_0, hx293_1⟩ := at_T63 HR0.out x4_1 p293 q293
         cases e293
         replace hx293_0 := (HB.out.cell (World.block_lt_of_cell? w _ hx293_0)).trans hx293_0
         replace hx293_1 := (HB.out.cell (World.block_lt_of_cell? w _ hx293_1)).trans hx293_1
         replace p293 := eq_true p293
         replace q293 := eq_true q293
         go_wp2_with (first | ((with_reducible refine gate_callee (f := 75) rfl ?_); refine goesL_ (some 24) rfl rfl Try.func75 (by kernel_rfl) rfl #[.agg #[.int .i64 ((rd_T63 l0 x4_1).f0), .int .i64 ((rd_T63 l0 x4_1).f1)]] rfl (by (try simp only [List.map_toArray, List.map_cons, List.map_nil]); first | done | rfl) ?_; (with_reducible refine (whirligigref03_Text.calls k1 ((rd_T63 l0 x4_1).f0) ((rd_T63 l0 x4_1).f1) t294 _ A9.out).mono ?_); rintro e w11 ⟨rfl, hb⟩; refine ⟨_, rfl, ?_⟩; replace HB := Aside0.mk (below_step (by repeat (first | (with_reducible first | exact HB.out | apply below_alloc | apply pw_below_drewN | apply below_drew1) | exact HB.out)) hb); (try clear hb); (try clear hb2); (try clear hk); (try clear hi)))
         go_roundg k1
         case measure => have := HK1.out; omega
         case rel => exact ⟨((x3_1 ++ (⟨#[32]⟩ : ByteArray)) ++ t294), (wrap64 (x4_1 + 1)), (by first | rfl | (simp; done) | (simp [*]; done)), (by first | rfl | (simp; done) | (simp [*]; done)), H', ⟨by have := HK1.out; omega⟩, ⟨by repeat (first | (with_reducible first | exact HB.out | apply below_alloc | apply pw_below_drewN | apply below_drew1) | exact HB.out)⟩⟩
        ·rw [if_neg c10] at H
         exact absurd H (by simp)
       ·rw [if_neg c8] at H
        exact absurd H (by simp)
      ·rw [if_neg c7] at H
       exact absurd H (by simp)
     ·rw [if_neg c6] at H
      have c6b0 : decide (0 < x4_1) = false := decide_eq_false c6
      clear c6
      by_cases c12 : 0 ≤ x4_1
      ·rw [if_pos c12] at H
       have c12b0 : decide (0 ≤ x4_1) = true := decide_eq_true c12
       clear c12
       replace H := Option.bind_eq_some_iff.mp H
       obtain ⟨t296, A130, H⟩ := H
       (try dsimp only at H)
       have A13 := Aside0.mk A130
       clear A130
       by_cases c14 : x3_1.size + t296.size ≤ 9223372036854775807
       ·rw [if_pos c14] at H
        have c14b0 := eq_true c14
        have c14b1 : decide (x3_1.size + t296.size ≤ 9223372036854775807) = true := decide_eq_true c14
        try have c14b2 : (9223372036854775807 < x3_1.size + t296.size) = False := eq_false (Nat.not_lt.2 c14)
        have H' := Aside0.mk H
        clear H
        have p295 : 0 ≤ (x4_1 : Int) := of_decide_eq_true (by first | (with_reducible assumption) | assumption)
        have q295 : x4_1 < (l0.length : Int) := of_decide_eq_true (by first | (with_reducible assumption) | assumption)
        obtain ⟨ad295, e295, hx295_0, hx295_1⟩ := at_T63 HR0.out x4_1 p295 q295
        cases e295
        replace hx295_0 := (HB.out.cell (World.block_lt_of_cell? w _ hx295_0)).trans hx295_0
        replace hx295_1 := (HB.out.cell (World.block_lt_of_cell? w _ hx295_1)).trans hx295_1
        replace p295 := eq_true p295
        replace q295 := eq_true q295
        go_wp2_with (first | ((with_reducible refine gate_callee (f := 75) rfl ?_); refine goesL_ (some 24) rfl rfl Try.func75 (by kernel_rfl) rfl #[.agg #[.int .i64 ((rd_T63 l0 x4_1).f0), .int .i64 ((rd_T63 l0 x4_1).f1)]] rfl (by (try simp only [List.map_toArray, List.map_cons, List.map_nil]); first | done | rfl) ?_; (with_reducible refine (whirligigref03_Text.calls k1 ((rd_T63 l0 x4_1).f0) ((rd_T63 l0 x4_1).f1) t296 _ A13.out).mono ?_); rintro e w15 ⟨rfl, hb⟩; refine ⟨_, rfl, ?_⟩; replace HB := Aside0.mk (below_step (by repeat (first | (with_reducible first | exact HB.out | apply below_alloc | apply pw_below_drewN | apply below_drew1) | exact HB.out)) hb); (try clear hb); (try clear hb2); (try clear hk); (try clear hi)))
        go_roundg k1
        case measure => have := HK1.out; omega
        case rel => exact ⟨(x3_1 ++ t296), (wrap64 (x4_1 + 1)), (by first | rfl | (simp; done) | (simp [*]; done)), (by first | rfl | (simp; done) | (simp [*]; done)), H', ⟨by have := HK1.out; omega⟩, ⟨by repeat (first | (with_reducible first | exact HB.out | apply below_alloc | apply pw_below_drewN | apply below_drew1) | exact HB.out)⟩⟩
       ·rw [if_neg c14] at H
        exact absurd H (by simp)
      ·rw [if_neg c12] at H
       exact absurd H (by simp)
    ·rw [if_neg c5] at H
     have c5b0 : decide (x4_1 < (l0.length : Int)) = false := decide_eq_false c5
     clear c5
     obtain rfl := Option.some.inj H
     go_wp2
     go_ret
     exact ⟨by first | rfl | (simp [errW_none, errW_some] <;> rfl) | (simp [*, errW_none, errW_some] <;> rfl), by repeat (first | (with_reducible first | exact HB.out | apply below_alloc | apply pw_below_drewN | apply below_drew1) | exact HB.out)⟩
 ·replace c3 := Bool.eq_false_iff.mpr c3
  subst c3
  have H1 : (some (⟨#[]⟩ : ByteArray)) = some r := by rw [if_neg (show ¬ (false = true) by decide)] at H; exact H
  clear H
  have H := H1
  clear H1
  obtain rfl := Option.some.inj H
  go_enter Try.func49, Try.ntmps49
  go_wp2_with (first | ((with_reducible refine gate_callee (f := 45) rfl ?_); refine goesL_ (some 6) rfl rfl Try.func45 (by kernel_rfl) rfl #[.slice A0 l0.length c0] rfl (by (try simp only [List.map_toArray, List.map_cons, List.map_nil]); first | done | rfl) ?_; (with_reducible refine (whirligigref03_Set.calls k _ _ l0 false _ ?side1 ?side2 A2.out).mono ?_); (case side1 => repeat (first | exact HR0.out | (with_reducible refine Kd.C_alloc ?_ _) | (with_reducible refine Kd.C_drewN ?_ _) | (with_reducible refine Kd.C_drew ?_))); (case side2 => exact HC0.out); rintro e w16 ⟨rfl, hb⟩; refine ⟨_, rfl, ?_⟩; replace HB := Aside0.mk (below_step (by repeat (first | (with_reducible first | exact HB.out | apply below_alloc | apply pw_below_drewN | apply below_drew1) | exact HB.out)) hb); (try clear hb); (try clear hb2); (try clear hk); (try clear hi)))
  go_ret
  exact ⟨by first | rfl | (simp [errW_none, errW_some] <;> rfl) | (simp [*, errW_none, errW_some] <;> rfl), by repeat (first | (with_reducible first | exact HB.out | apply below_alloc | apply pw_below_drewN | apply below_drew1) | exact HB.out)⟩

/-! ### whirligigref09_Text: function 17 -/
mutual
def whirligigref09_Text.j0 : Nat → ByteArray → Int → Int → Int → List Int → List (S63) → Int → List Int → Option (ByteArray)
  | 0, _, _, _, _, _, _, _, _ => none
  | k + 1, x4, x298000, x298001, x298002, x298003, x298004, x298005, x298006 => whirligigref09_Text.l0 k x4 0 x298000 x298001 x298002 x298003 x298004 x298005 x298006
def whirligigref09_Text.l0 : Nat → ByteArray → Int → Int → Int → Int → List Int → List (S63) → Int → List Int → Option (ByteArray)
  | 0, _, _, _, _, _, _, _, _, _ => none
  | k + 1, x4, x5, x298000, x298001, x298002, x298003, x298004, x298005, x298006 => if x5 < (x298006.length : Int) then (if x5 = 0 then (if x4.size + 11 ≤ 9223372036854775807 then (if 0 ≤ x5 then ((whirligigref01_Number.f k (rd x298006 x5)).bind fun t309 => (if (x4 ++ (⟨#[32, 99, 108, 117, 115, 116, 101, 114, 115, 32, 91]⟩ : ByteArray)).size + t309.size ≤ 9223372036854775807 then (if x5 = (wrap64 ((x298006.length : Int) - 1)) then (if ((x4 ++ (⟨#[32, 99, 108, 117, 115, 116, 101, 114, 115, 32, 91]⟩ : ByteArray)) ++ t309).size + 1 ≤ 9223372036854775807 then (whirligigref09_Text.l0 k (((x4 ++ (⟨#[32, 99, 108, 117, 115, 116, 101, 114, 115, 32, 91]⟩ : ByteArray)) ++ t309) ++ (⟨#[93]⟩ : ByteArray)) (wrap64 (x5 + 1)) x298000 x298001 x298002 x298003 x298004 x298005 x298006) else (none)) else (whirligigref09_Text.l0 k ((x4 ++ (⟨#[32, 99, 108, 117, 115, 116, 101, 114, 115, 32, 91]⟩ : ByteArray)) ++ t309) (wrap64 (x5 + 1)) x298000 x298001 x298002 x298003 x298004 x298005 x298006)) else (none))) else (none)) else (none)) else (if x4.size + 1 ≤ 9223372036854775807 then (if 0 ≤ x5 then ((whirligigref01_Number.f k (rd x298006 x5)).bind fun t311 => (if (x4 ++ (⟨#[32]⟩ : ByteArray)).size + t311.size ≤ 9223372036854775807 then (if x5 = (wrap64 ((x298006.length : Int) - 1)) then (if ((x4 ++ (⟨#[32]⟩ : ByteArray)) ++ t311).size + 1 ≤ 9223372036854775807 then (whirligigref09_Text.l0 k (((x4 ++ (⟨#[32]⟩ : ByteArray)) ++ t311) ++ (⟨#[93]⟩ : ByteArray)) (wrap64 (x5 + 1)) x298000 x298001 x298002 x298003 x298004 x298005 x298006) else (none)) else (whirligigref09_Text.l0 k ((x4 ++ (⟨#[32]⟩ : ByteArray)) ++ t311) (wrap64 (x5 + 1)) x298000 x298001 x298002 x298003 x298004 x298005 x298006)) else (none))) else (none)) else (none))) else (some x4)
end
def whirligigref09_Text.f (k : Nat) (a0_0 : Int) (a0_1 : Int) (a0_2 : Int) (l0_3 : List Int) (l0_4 : List (S63)) (a0_5 : Int) (l0_6 : List Int) : Option (ByteArray) := (whirligigref09_May.f k a0_0 a0_1 a0_2 l0_3 l0_4 a0_5 l0_6).bind fun t298 => (if t298 = true then ((some (([(⟨#[105, 103, 112]⟩ : ByteArray), (⟨#[101, 103, 112]⟩ : ByteArray), (⟨#[110, 111, 110, 101]⟩ : ByteArray)] : List ByteArray) : List ByteArray)).bind fun y299 => ((whirligigref01_Number.f k a0_0).bind fun t302 => (if 5 + t302.size ≤ 9223372036854775807 then (if ((⟨#[112, 114, 101, 102, 32]⟩ : ByteArray) ++ t302).size + 5 ≤ 9223372036854775807 then ((whirligigref01_Number.f k a0_1).bind fun t303 => (if (((⟨#[112, 114, 101, 102, 32]⟩ : ByteArray) ++ t302) ++ (⟨#[32, 109, 101, 100, 32]⟩ : ByteArray)).size + t303.size ≤ 9223372036854775807 then (if ((((⟨#[112, 114, 101, 102, 32]⟩ : ByteArray) ++ t302) ++ (⟨#[32, 109, 101, 100, 32]⟩ : ByteArray)) ++ t303).size + 8 ≤ 9223372036854775807 then (if 0 ≤ a0_2 then (if a0_2 < (y299.length : Int) then (if (((((⟨#[112, 114, 101, 102, 32]⟩ : ByteArray) ++ t302) ++ (⟨#[32, 109, 101, 100, 32]⟩ : ByteArray)) ++ t303) ++ (⟨#[32, 111, 114, 105, 103, 105, 110, 32]⟩ : ByteArray)).size + (rdOf ByteArray.empty y299 a0_2).size ≤ 9223372036854775807 then (if ((((((⟨#[112, 114, 101, 102, 32]⟩ : ByteArray) ++ t302) ++ (⟨#[32, 109, 101, 100, 32]⟩ : ByteArray)) ++ t303) ++ (⟨#[32, 111, 114, 105, 103, 105, 110, 32]⟩ : ByteArray)) ++ (rdOf ByteArray.empty y299 a0_2)).size + 7 ≤ 9223372036854775807 then ((whirligigref04_Text.f k l0_3).bind fun t305 => (if (((((((⟨#[112, 114, 101, 102, 32]⟩ : ByteArray) ++ t302) ++ (⟨#[32, 109, 101, 100, 32]⟩ : ByteArray)) ++ t303) ++ (⟨#[32, 111, 114, 105, 103, 105, 110, 32]⟩ : ByteArray)) ++ (rdOf ByteArray.empty y299 a0_2)) ++ (⟨#[32, 112, 97, 116, 104, 32, 91]⟩ : ByteArray)).size + t305.size ≤ 9223372036854775807 then (if ((((((((⟨#[112, 114, 101, 102, 32]⟩ : ByteArray) ++ t302) ++ (⟨#[32, 109, 101, 100, 32]⟩ : ByteArray)) ++ t303) ++ (⟨#[32, 111, 114, 105, 103, 105, 110, 32]⟩ : ByteArray)) ++ (rdOf ByteArray.empty y299 a0_2)) ++ (⟨#[32, 112, 97, 116, 104, 32, 91]⟩ : ByteArray)) ++ t305).size + 9 ≤ 9223372036854775807 then ((whirligigref03_Texts.f k l0_4).bind fun t306 => (if (((((((((⟨#[112, 114, 101, 102, 32]⟩ : ByteArray) ++ t302) ++ (⟨#[32, 109, 101, 100, 32]⟩ : ByteArray)) ++ t303) ++ (⟨#[32, 111, 114, 105, 103, 105, 110, 32]⟩ : ByteArray)) ++ (rdOf ByteArray.empty y299 a0_2)) ++ (⟨#[32, 112, 97, 116, 104, 32, 91]⟩ : ByteArray)) ++ t305) ++ (⟨#[93, 32, 99, 111, 109, 109, 115, 32, 91]⟩ : ByteArray)).size + t306.size ≤ 9223372036854775807 then (if ((((((((((⟨#[112, 114, 101, 102, 32]⟩ : ByteArray) ++ t302) ++ (⟨#[32, 109, 101, 100, 32]⟩ : ByteArray)) ++ t303) ++ (⟨#[32, 111, 114, 105, 103, 105, 110, 32]⟩ : ByteArray)) ++ (rdOf ByteArray.empty y299 a0_2)) ++ (⟨#[32, 112, 97, 116, 104, 32, 91]⟩ : ByteArray)) ++ t305) ++ (⟨#[93, 32, 99, 111, 109, 109, 115, 32, 91]⟩ : ByteArray)) ++ t306).size + 1 ≤ 9223372036854775807 then (if a0_5 = 0 then (whirligigref09_Text.j0 k (((((((((((⟨#[112, 114, 101, 102, 32]⟩ : ByteArray) ++ t302) ++ (⟨#[32, 109, 101, 100, 32]⟩ : ByteArray)) ++ t303) ++ (⟨#[32, 111, 114, 105, 103, 105, 110, 32]⟩ : ByteArray)) ++ (rdOf ByteArray.empty y299 a0_2)) ++ (⟨#[32, 112, 97, 116, 104, 32, 91]⟩ : ByteArray)) ++ t305) ++ (⟨#[93, 32, 99, 111, 109, 109, 115, 32, 91]⟩ : ByteArray)) ++ t306) ++ (⟨#[93]⟩ : ByteArray)) a0_0 a0_1 a0_2 l0_3 l0_4 a0_5 l0_6) else (if (((((((((((⟨#[112, 114, 101, 102, 32]⟩ : ByteArray) ++ t302) ++ (⟨#[32, 109, 101, 100, 32]⟩ : ByteArray)) ++ t303) ++ (⟨#[32, 111, 114, 105, 103, 105, 110, 32]⟩ : ByteArray)) ++ (rdOf ByteArray.empty y299 a0_2)) ++ (⟨#[32, 112, 97, 116, 104, 32, 91]⟩ : ByteArray)) ++ t305) ++ (⟨#[93, 32, 99, 111, 109, 109, 115, 32, 91]⟩ : ByteArray)) ++ t306) ++ (⟨#[93]⟩ : ByteArray)).size + 6 ≤ 9223372036854775807 then ((whirligigref01_Number.f k a0_5).bind fun t307 => (if ((((((((((((⟨#[112, 114, 101, 102, 32]⟩ : ByteArray) ++ t302) ++ (⟨#[32, 109, 101, 100, 32]⟩ : ByteArray)) ++ t303) ++ (⟨#[32, 111, 114, 105, 103, 105, 110, 32]⟩ : ByteArray)) ++ (rdOf ByteArray.empty y299 a0_2)) ++ (⟨#[32, 112, 97, 116, 104, 32, 91]⟩ : ByteArray)) ++ t305) ++ (⟨#[93, 32, 99, 111, 109, 109, 115, 32, 91]⟩ : ByteArray)) ++ t306) ++ (⟨#[93]⟩ : ByteArray)) ++ (⟨#[32, 102, 114, 111, 109, 32]⟩ : ByteArray)).size + t307.size ≤ 9223372036854775807 then (whirligigref09_Text.j0 k (((((((((((((⟨#[112, 114, 101, 102, 32]⟩ : ByteArray) ++ t302) ++ (⟨#[32, 109, 101, 100, 32]⟩ : ByteArray)) ++ t303) ++ (⟨#[32, 111, 114, 105, 103, 105, 110, 32]⟩ : ByteArray)) ++ (rdOf ByteArray.empty y299 a0_2)) ++ (⟨#[32, 112, 97, 116, 104, 32, 91]⟩ : ByteArray)) ++ t305) ++ (⟨#[93, 32, 99, 111, 109, 109, 115, 32, 91]⟩ : ByteArray)) ++ t306) ++ (⟨#[93]⟩ : ByteArray)) ++ (⟨#[32, 102, 114, 111, 109, 32]⟩ : ByteArray)) ++ t307) a0_0 a0_1 a0_2 l0_3 l0_4 a0_5 l0_6) else (none))) else (none))) else (none)) else (none))) else (none)) else (none))) else (none)) else (none)) else (none)) else (none)) else (none)) else (none))) else (none)) else (none)))) else (some (⟨#[]⟩ : ByteArray)))
theorem whirligigref09_Text.mono_l : ∀ k, (∀ y0 y1 y2 y3 y4 y5 y6 y7, LeO (whirligigref09_Text.j0 k y0 y1 y2 y3 y4 y5 y6 y7) (whirligigref09_Text.j0 (k + 1) y0 y1 y2 y3 y4 y5 y6 y7)) ∧ (∀ y0 y1 y2 y3 y4 y5 y6 y7 y8, LeO (whirligigref09_Text.l0 k y0 y1 y2 y3 y4 y5 y6 y7 y8) (whirligigref09_Text.l0 (k + 1) y0 y1 y2 y3 y4 y5 y6 y7 y8))
  | 0 => ⟨fun _ _ _ _ _ _ _ _ r h => by simp [whirligigref09_Text.j0] at h, fun _ _ _ _ _ _ _ _ _ r h => by simp [whirligigref09_Text.l0] at h⟩
  | k + 1 => by
    obtain ⟨ih0, ih1⟩ := whirligigref09_Text.mono_l k
    refine ⟨?_, ?_⟩
    · intro y0 y1 y2 y3 y4 y5 y6 y7
      unfold whirligigref09_Text.j0
      repeat' first
      | (with_reducible exact ih0 _ _ _ _ _ _ _ _)
      | (with_reducible exact ih1 _ _ _ _ _ _ _ _ _)
      | (with_reducible exact whirligigref01_Number.mono _ _)
      | (with_reducible exact whirligigref03_Texts.mono _ _)
      | (with_reducible exact whirligigref04_Text.mono _ _)
      | (with_reducible exact whirligigref09_May.mono _ _ _ _ _ _ _ _)
      | (with_reducible exact LeO.refl _)
      | (with_reducible exact LeO.none _)
      | (with_reducible refine LeO.ite ?_ ?_)
      | (with_reducible refine LeO.bind ?_ (fun _ => ?_))
      | exact ih0 _ _ _ _ _ _ _ _
      | exact ih1 _ _ _ _ _ _ _ _ _
      | exact whirligigref01_Number.mono _ _
      | exact whirligigref03_Texts.mono _ _
      | exact whirligigref04_Text.mono _ _
      | exact whirligigref09_May.mono _ _ _ _ _ _ _ _
      | exact LeO.none _
      | refine LeO.ite ?_ ?_
      | refine LeO.bind ?_ (fun _ => ?_)
    · intro y0 y1 y2 y3 y4 y5 y6 y7 y8
      unfold whirligigref09_Text.l0
      repeat' first
      | (with_reducible exact ih0 _ _ _ _ _ _ _ _)
      | (with_reducible exact ih1 _ _ _ _ _ _ _ _ _)
      | (with_reducible exact whirligigref01_Number.mono _ _)
      | (with_reducible exact whirligigref03_Texts.mono _ _)
      | (with_reducible exact whirligigref04_Text.mono _ _)
      | (with_reducible exact whirligigref09_May.mono _ _ _ _ _ _ _ _)
      | (with_reducible exact LeO.refl _)
      | (with_reducible exact LeO.none _)
      | (with_reducible refine LeO.ite ?_ ?_)
      | (with_reducible refine LeO.bind ?_ (fun _ => ?_))
      | exact ih0 _ _ _ _ _ _ _ _
      | exact ih1 _ _ _ _ _ _ _ _ _
      | exact whirligigref01_Number.mono _ _
      | exact whirligigref03_Texts.mono _ _
      | exact whirligigref04_Text.mono _ _
      | exact whirligigref09_May.mono _ _ _ _ _ _ _ _
      | exact LeO.none _
      | refine LeO.ite ?_ ?_
      | refine LeO.bind ?_ (fun _ => ?_)
theorem whirligigref09_Text.mono : ∀ a0 a1 a2 a3 a4 a5 a6 k, LeO (whirligigref09_Text.f k a0 a1 a2 a3 a4 a5 a6) (whirligigref09_Text.f (k + 1) a0 a1 a2 a3 a4 a5 a6) := by
  intro a0 a1 a2 a3 a4 a5 a6 k
  obtain ⟨ih0, ih1⟩ := whirligigref09_Text.mono_l k
  unfold whirligigref09_Text.f
  repeat' first
      | (with_reducible exact ih0 _ _ _ _ _ _ _ _)
      | (with_reducible exact ih1 _ _ _ _ _ _ _ _ _)
      | (with_reducible exact whirligigref01_Number.mono _ _)
      | (with_reducible exact whirligigref03_Texts.mono _ _)
      | (with_reducible exact whirligigref04_Text.mono _ _)
      | (with_reducible exact whirligigref09_May.mono _ _ _ _ _ _ _ _)
      | (with_reducible exact LeO.refl _)
      | (with_reducible exact LeO.none _)
      | (with_reducible refine LeO.ite ?_ ?_)
      | (with_reducible refine LeO.bind ?_ (fun _ => ?_))
      | exact ih0 _ _ _ _ _ _ _ _
      | exact ih1 _ _ _ _ _ _ _ _ _
      | exact whirligigref01_Number.mono _ _
      | exact whirligigref03_Texts.mono _ _
      | exact whirligigref04_Text.mono _ _
      | exact whirligigref09_May.mono _ _ _ _ _ _ _ _
      | exact LeO.none _
      | refine LeO.ite ?_ ?_
      | refine LeO.bind ?_ (fun _ => ?_)
def whirligigref09_Text.T4 : Bool × List (List Nat × List Nat) := (true, [([], []), ([0], [0]), ([1], [1]), ([2], [2]), ([3], [3]), ([], []), ([5], [5]), ([6, 2], [6]), ([4, 7], [4, 7]), ([8], [8]), ([], []), ([], []), ([11], [11]), ([10, 12], [10, 12]), ([13], [13]), ([9, 14], [9, 14]), ([15], [15]), ([], []), ([17], [17]), ([18, 7], [18]), ([16, 19], [16, 19]), ([20], [20]), ([], []), ([22], [22]), ([23, 19], [23]), ([21, 24], [21, 24]), ([25], [25]), ([26, 24, 0, 1, 2, 3, 4, 5, 6, 7, 8, 9, 10, 11, 12, 13, 14, 15, 16, 17, 18, 19, 20, 21, 22, 23, 24, 25, 26], [26])])
def whirligigref09_Text.B4 : List Nat := [0, 1, 3, 7, 15, 0, 32, 103, 255, 511, 0, 0, 2048, 7168, 15360, 32767, 65535, 0, 131072, 393447, 1048575, 2097151, 0, 4194304, 13500647, 33554431, 67108863, 134217727]
theorem whirligigref09_Text.tab4 : rtab .any (opsOf Try.f17 4) = whirligigref09_Text.T4 := by kernel_rfl
theorem whirligigref09_Text.bits4 : waitsOk whirligigref09_Text.T4.2 whirligigref09_Text.B4 = true := by kernel_rfl
theorem k3b39.b7 {W : World} {g : Nat} {v0 v1 v2 v3 v4 v5 v6 : Value} {t : TypeId} (h : W.heap[g]? = some (.cells #[v0, v1, v2, v3, v4, v5, v6] t (0, 0))) {R : Prop} (r : R) : W.cell? ⟨g, 0, none⟩ = some v0 ∧ W.cell? ⟨g, 1, none⟩ = some v1 ∧ W.cell? ⟨g, 2, none⟩ = some v2 ∧ W.cell? ⟨g, 3, none⟩ = some v3 ∧ W.cell? ⟨g, 4, none⟩ = some v4 ∧ W.cell? ⟨g, 5, none⟩ = some v5 ∧ W.cell? ⟨g, 6, none⟩ = some v6 ∧ R :=
  ⟨(blk_cell h 0).trans rfl, (blk_cell h 1).trans rfl, (blk_cell h 2).trans rfl, (blk_cell h 3).trans rfl, (blk_cell h 4).trans rfl, (blk_cell h 5).trans rfl, (blk_cell h 6).trans rfl, r⟩
set_option maxHeartbeats 8000000 in
set_option maxRecDepth 100000 in
theorem whirligigref09_Text.calls (k : Nat) (aj : Int) (ak : Int) (ac : Int) (am : Option Addr) (an : Nat) (ah : List Int) (ao : Option Addr) (ap : Nat) (ai : List (S63)) (af : Int) (ar : Option Addr) (aq : Nat) (ad : List Int) (r : ByteArray) (w : World) (hr0_3 : Kd.C (Kd.int .i64) w am ah.length ah) (hc0_3 : ah.length ≤ an) (hr0_4 : Kd.C k63 w ao ai.length ai) (hc0_4 : ai.length ≤ ap) (hr0_6 : Kd.C (Kd.int .i64) w ar ad.length ad) (hc0_6 : ad.length ≤ aq) (h : whirligigref09_Text.f k aj ak ac ah ai af ad = some r) :
  Calls Try.prog 17 #[.agg #[.int .i64 aj, .int .i64 ak, .int .i64 ac, .slice am ah.length an, .slice ao ai.length ap, .int .i64 af, .slice ar ad.length aq]] w fun e w' => e = .returned (.string r) ∧ Below w.heap.size w w' := by
 have hu30 := Try.underlying30
 have HR0_3 := Aside0.mk hr0_3
 have HC0_3 := Aside0.mk hc0_3
 clear hr0_3 hc0_3
 have HR0_4 := Aside0.mk hr0_4
 have HC0_4 := Aside0.mk hc0_4
 clear hr0_4 hc0_4
 have HR0_6 := Aside0.mk hr0_6
 have HC0_6 := Aside0.mk hc0_6
 clear hr0_6 hc0_6
 have HB := Aside0.mk (Below.refl w.heap.size w)
 have H := h
 unfold whirligigref09_Text.f at H
 clear h
 replace H := Option.bind_eq_some_iff.mp H
 obtain ⟨t298, A20, H⟩ := H
 (try dsimp only at H)
 have A2 := Aside0.mk A20
 clear A20
 by_cases c3 : t298 = true
 ·subst c3
  have H1 := H
  rw [if_pos rfl] at H1
  clear H
  have H := H1
  clear H1
  obtain ⟨ae, hy299⟩ : ∃ y_ : List ByteArray, y_ = (([(⟨#[105, 103, 112]⟩ : ByteArray), (⟨#[101, 103, 112]⟩ : ByteArray), (⟨#[110, 111, 110, 101]⟩ : ByteArray)] : List ByteArray)) := ⟨_, rfl⟩
  replace H : ((whirligigref01_Number.f k aj).bind fun t302 => (if 5 + t302.size ≤ 9223372036854775807 then (if ((⟨#[112, 114, 101, 102, 32]⟩ : ByteArray) ++ t302).size + 5 ≤ 9223372036854775807 then ((whirligigref01_Number.f k ak).bind fun t303 => (if (((⟨#[112, 114, 101, 102, 32]⟩ : ByteArray) ++ t302) ++ (⟨#[32, 109, 101, 100, 32]⟩ : ByteArray)).size + t303.size ≤ 9223372036854775807 then (if ((((⟨#[112, 114, 101, 102, 32]⟩ : ByteArray) ++ t302) ++ (⟨#[32, 109, 101, 100, 32]⟩ : ByteArray)) ++ t303).size + 8 ≤ 9223372036854775807 then (if 0 ≤ ac then (if ac < (ae.length : Int) then (if (((((⟨#[112, 114, 101, 102, 32]⟩ : ByteArray) ++ t302) ++ (⟨#[32, 109, 101, 100, 32]⟩ : ByteArray)) ++ t303) ++ (⟨#[32, 111, 114, 105, 103, 105, 110, 32]⟩ : ByteArray)).size + (rdOf ByteArray.empty ae ac).size ≤ 9223372036854775807 then (if ((((((⟨#[112, 114, 101, 102, 32]⟩ : ByteArray) ++ t302) ++ (⟨#[32, 109, 101, 100, 32]⟩ : ByteArray)) ++ t303) ++ (⟨#[32, 111, 114, 105, 103, 105, 110, 32]⟩ : ByteArray)) ++ (rdOf ByteArray.empty ae ac)).size + 7 ≤ 9223372036854775807 then ((whirligigref04_Text.f k ah).bind fun t305 => (if (((((((⟨#[112, 114, 101, 102, 32]⟩ : ByteArray) ++ t302) ++ (⟨#[32, 109, 101, 100, 32]⟩ : ByteArray)) ++ t303) ++ (⟨#[32, 111, 114, 105, 103, 105, 110, 32]⟩ : ByteArray)) ++ (rdOf ByteArray.empty ae ac)) ++ (⟨#[32, 112, 97, 116, 104, 32, 91]⟩ : ByteArray)).size + t305.size ≤ 9223372036854775807 then (if ((((((((⟨#[112, 114, 101, 102, 32]⟩ : ByteArray) ++ t302) ++ (⟨#[32, 109, 101, 100, 32]⟩ : ByteArray)) ++ t303) ++ (⟨#[32, 111, 114, 105, 103, 105, 110, 32]⟩ : ByteArray)) ++ (rdOf ByteArray.empty ae ac)) ++ (⟨#[32, 112, 97, 116, 104, 32, 91]⟩ : ByteArray)) ++ t305).size + 9 ≤ 9223372036854775807 then ((whirligigref03_Texts.f k ai).bind fun t306 => (if (((((((((⟨#[112, 114, 101, 102, 32]⟩ : ByteArray) ++ t302) ++ (⟨#[32, 109, 101, 100, 32]⟩ : ByteArray)) ++ t303) ++ (⟨#[32, 111, 114, 105, 103, 105, 110, 32]⟩ : ByteArray)) ++ (rdOf ByteArray.empty ae ac)) ++ (⟨#[32, 112, 97, 116, 104, 32, 91]⟩ : ByteArray)) ++ t305) ++ (⟨#[93, 32, 99, 111, 109, 109, 115, 32, 91]⟩ : ByteArray)).size + t306.size ≤ 9223372036854775807 then (if ((((((((((⟨#[112, 114, 101, 102, 32]⟩ : ByteArray) ++ t302) ++ (⟨#[32, 109, 101, 100, 32]⟩ : ByteArray)) ++ t303) ++ (⟨#[32, 111, 114, 105, 103, 105, 110, 32]⟩ : ByteArray)) ++ (rdOf ByteArray.empty ae ac)) ++ (⟨#[32, 112, 97, 116, 104, 32, 91]⟩ : ByteArray)) ++ t305) ++ (⟨#[93, 32, 99, 111, 109, 109, 115, 32, 91]⟩ : ByteArray)) ++ t306).size + 1 ≤ 9223372036854775807 then (if af = 0 then (whirligigref09_Text.j0 k (((((((((((⟨#[112, 114, 101, 102, 32]⟩ : ByteArray) ++ t302) ++ (⟨#[32, 109, 101, 100, 32]⟩ : ByteArray)) ++ t303) ++ (⟨#[32, 111, 114, 105, 103, 105, 110, 32]⟩ : ByteArray)) ++ (rdOf ByteArray.empty ae ac)) ++ (⟨#[32, 112, 97, 116, 104, 32, 91]⟩ : ByteArray)) ++ t305) ++ (⟨#[93, 32, 99, 111, 109, 109, 115, 32, 91]⟩ : ByteArray)) ++ t306) ++ (⟨#[93]⟩ : ByteArray)) aj ak ac ah ai af ad) else (if (((((((((((⟨#[112, 114, 101, 102, 32]⟩ : ByteArray) ++ t302) ++ (⟨#[32, 109, 101, 100, 32]⟩ : ByteArray)) ++ t303) ++ (⟨#[32, 111, 114, 105, 103, 105, 110, 32]⟩ : ByteArray)) ++ (rdOf ByteArray.empty ae ac)) ++ (⟨#[32, 112, 97, 116, 104, 32, 91]⟩ : ByteArray)) ++ t305) ++ (⟨#[93, 32, 99, 111, 109, 109, 115, 32, 91]⟩ : ByteArray)) ++ t306) ++ (⟨#[93]⟩ : ByteArray)).size + 6 ≤ 9223372036854775807 then ((whirligigref01_Number.f k af).bind fun t307 => (if ((((((((((((⟨#[112, 114, 101, 102, 32]⟩ : ByteArray) ++ t302) ++ (⟨#[32, 109, 101, 100, 32]⟩ : ByteArray)) ++ t303) ++ (⟨#[32, 111, 114, 105, 103, 105, 110, 32]⟩ : ByteArray)) ++ (rdOf ByteArray.empty ae ac)) ++ (⟨#[32, 112, 97, 116, 104, 32, 91]⟩ : ByteArray)) ++ t305) ++ (⟨#[93, 32, 99, 111, 109, 109, 115, 32, 91]⟩ : ByteArray)) ++ t306) ++ (⟨#[93]⟩ : ByteArray)) ++ (⟨#[32, 102, 114, 111, 109, 32]⟩ : ByteArray)).size + t307.size ≤ 9223372036854775807 then (whirligigref09_Text.j0 k (((((((((((((⟨#[112, 114, 101, 102, 32]⟩ : ByteArray) ++ t302) ++ (⟨#[32, 109, 101, 100, 32]⟩ : ByteArray)) ++ t303) ++ (⟨#[32, 111, 114, 105, 103, 105, 110, 32]⟩ : ByteArray)) ++ (rdOf ByteArray.empty ae ac)) ++ (⟨#[32, 112, 97, 116, 104, 32, 91]⟩ : ByteArray)) ++ t305) ++ (⟨#[93, 32, 99, 111, 109, 109, 115, 32, 91]⟩ : ByteArray)) ++ t306) ++ (⟨#[93]⟩ : ByteArray)) ++ (⟨#[32, 102, 114, 111, 109, 32]⟩ : ByteArray)) ++ t307) aj ak ac ah ai af ad) else (none))) else (none))) else (none)) else (none))) else (none)) else (none))) else (none)) else (none)) else (none)) else (none)) else (none)) else (none))) else (none)) else (none))) = some r := by first | (rw [hy299]; with_reducible exact H) | (have H2_ := (Option.bind_some _ _).symm.trans H; rw [hy299]; with_reducible exact H2_) | (have H2_ := (Option.bind_some _ _).symm.trans H; with_reducible exact H2_) | with_reducible exact H | (rw [hy299]; exact H) | exact H
  have Ny299 := Aside0.mk hy299
  clear hy299
  replace H := Option.bind_eq_some_iff.mp H
  obtain ⟨t302, A40, H⟩ := H
  (try dsimp only at H)
  have A4 := Aside0.mk A40
  clear A40
  by_cases c5 : 5 + t302.size ≤ 9223372036854775807
  ·rw [if_pos c5] at H
   have c5b0 := eq_true c5
   have c5b1 : decide (5 + t302.size ≤ 9223372036854775807) = true := decide_eq_true c5
   try have c5b2 : (9223372036854775807 < 5 + t302.size) = False := eq_false (Nat.not_lt.2 c5)
   by_cases c6 : ((⟨#[112, 114, 101, 102, 32]⟩ : ByteArray) ++ t302).size + 5 ≤ 9223372036854775807
   ·rw [if_pos c6] at H
    have c6b0 := eq_true c6
    have c6b1 : decide (((⟨#[112, 114, 101, 102, 32]⟩ : ByteArray) ++ t302).size + 5 ≤ 9223372036854775807) = true := decide_eq_true c6
    try have c6b2 : (9223372036854775807 < ((⟨#[112, 114, 101, 102, 32]⟩ : ByteArray) ++ t302).size + 5) = False := eq_false (Nat.not_lt.2 c6)
    try have c6b3 : (9223372036854775807 < 5 + t302.size + 5) = False := eq_false (Nat.not_lt.2 (by have h_ := c6; simp only [ByteArray.size_append] at h_; exact h_))
    replace H := Option.bind_eq_some_iff.mp H
    obtain ⟨t303, A70, H⟩ := H
    (try dsimp only at H)
    have A7 := Aside0.mk A70
    clear A70
    by_cases c8 : (((⟨#[112, 114, 101, 102, 32]⟩ : ByteArray) ++ t302) ++ (⟨#[32, 109, 101, 100, 32]⟩ : ByteArray)).size + t303.size ≤ 9223372036854775807
    ·rw [if_pos c8] at H
     have c8b0 := eq_true c8
     have c8b1 : decide ((((⟨#[112, 114, 101, 102, 32]⟩ : ByteArray) ++ t302) ++ (⟨#[32, 109, 101, 100, 32]⟩ : ByteArray)).size + t303.size ≤ 9223372036854775807) = true := decide_eq_true c8
     try have c8b2 : (9223372036854775807 < (((⟨#[112, 114, 101, 102, 32]⟩ : ByteArray) ++ t302) ++ (⟨#[32, 109, 101, 100, 32]⟩ : ByteArray)).size + t303.size) = False := eq_false (Nat.not_lt.2 c8)
     try have c8b3 : (9223372036854775807 < 5 + t302.size + 5 + t303.size) = False := eq_false (Nat.not_lt.2 (by have h_ := c8; simp only [ByteArray.size_append] at h_; exact h_))
     by_cases c9 : ((((⟨#[112, 114, 101, 102, 32]⟩ : ByteArray) ++ t302) ++ (⟨#[32, 109, 101, 100, 32]⟩ : ByteArray)) ++ t303).size + 8 ≤ 9223372036854775807
     ·rw [if_pos c9] at H
      have c9b0 := eq_true c9
      have c9b1 : decide (((((⟨#[112, 114, 101, 102, 32]⟩ : ByteArray) ++ t302) ++ (⟨#[32, 109, 101, 100, 32]⟩ : ByteArray)) ++ t303).size + 8 ≤ 9223372036854775807) = true := decide_eq_true c9
      try have c9b2 : (9223372036854775807 < ((((⟨#[112, 114, 101, 102, 32]⟩ : ByteArray) ++ t302) ++ (⟨#[32, 109, 101, 100, 32]⟩ : ByteArray)) ++ t303).size + 8) = False := eq_false (Nat.not_lt.2 c9)
      try have c9b3 : (9223372036854775807 < 5 + t302.size + 5 + t303.size + 8) = False := eq_false (Nat.not_lt.2 (by have h_ := c9; simp only [ByteArray.size_append] at h_; exact h_))
      by_cases c10 : 0 ≤ ac
      ·rw [if_pos c10] at H
       have c10b0 : decide (0 ≤ ac) = true := decide_eq_true c10
       clear c10
       by_cases c11 : ac < (ae.length : Int)
       ·rw [if_pos c11] at H
        have c11b0 : decide (ac < (ae.length : Int)) = true := decide_eq_true c11
        clear c11
        by_cases aw : (((((⟨#[112, 114, 101, 102, 32]⟩ : ByteArray) ++ t302) ++ (⟨#[32, 109, 101, 100, 32]⟩ : ByteArray)) ++ t303) ++ (⟨#[32, 111, 114, 105, 103, 105, 110, 32]⟩ : ByteArray)).size + (rdOf ByteArray.empty ae ac).size ≤ 9223372036854775807
        ·rw [if_pos aw] at H
         have c12b0 := eq_true aw
         have c12b1 : decide ((((((⟨#[112, 114, 101, 102, 32]⟩ : ByteArray) ++ t302) ++ (⟨#[32, 109, 101, 100, 32]⟩ : ByteArray)) ++ t303) ++ (⟨#[32, 111, 114, 105, 103, 105, 110, 32]⟩ : ByteArray)).size + (rdOf ByteArray.empty ae ac).size ≤ 9223372036854775807) = true := decide_eq_true aw
         try have c12b2 : (9223372036854775807 < (((((⟨#[112, 114, 101, 102, 32]⟩ : ByteArray) ++ t302) ++ (⟨#[32, 109, 101, 100, 32]⟩ : ByteArray)) ++ t303) ++ (⟨#[32, 111, 114, 105, 103, 105, 110, 32]⟩ : ByteArray)).size + (rdOf ByteArray.empty ae ac).size) = False := eq_false (Nat.not_lt.2 aw)
         try have c12b3 : (9223372036854775807 < 5 + t302.size + 5 + t303.size + 8 + (rdOf ByteArray.empty ae ac).size) = False := eq_false (Nat.not_lt.2 (by have h_ := aw; simp only [ByteArray.size_append] at h_; exact h_))
         by_cases ax : ((((((⟨#[112, 114, 101, 102, 32]⟩ : ByteArray) ++ t302) ++ (⟨#[32, 109, 101, 100, 32]⟩ : ByteArray)) ++ t303) ++ (⟨#[32, 111, 114, 105, 103, 105, 110, 32]⟩ : ByteArray)) ++ (rdOf ByteArray.empty ae ac)).size + 7 ≤ 9223372036854775807
         ·rw [if_pos ax] at H
          have c13b0 := eq_true ax
          have c13b1 : decide (((((((⟨#[112, 114, 101, 102, 32]⟩ : ByteArray) ++ t302) ++ (⟨#[32, 109, 101, 100, 32]⟩ : ByteArray)) ++ t303) ++ (⟨#[32, 111, 114, 105, 103, 105, 110, 32]⟩ : ByteArray)) ++ (rdOf ByteArray.empty ae ac)).size + 7 ≤ 9223372036854775807) = true := decide_eq_true ax
          try have c13b2 : (9223372036854775807 < ((((((⟨#[112, 114, 101, 102, 32]⟩ : ByteArray) ++ t302) ++ (⟨#[32, 109, 101, 100, 32]⟩ : ByteArray)) ++ t303) ++ (⟨#[32, 111, 114, 105, 103, 105, 110, 32]⟩ : ByteArray)) ++ (rdOf ByteArray.empty ae ac)).size + 7) = False := eq_false (Nat.not_lt.2 ax)
          try have c13b3 : (9223372036854775807 < 5 + t302.size + 5 + t303.size + 8 + ((rdOf ByteArray.empty ae ac)).size + 7) = False := eq_false (Nat.not_lt.2 (by have h_ := ax; simp only [ByteArray.size_append] at h_; exact h_))
          replace H := Option.bind_eq_some_iff.mp H
          obtain ⟨t305, A140, H⟩ := H
          (try dsimp only at H)
          have A14 := Aside0.mk A140
          clear A140
          by_cases ay : (((((((⟨#[112, 114, 101, 102, 32]⟩ : ByteArray) ++ t302) ++ (⟨#[32, 109, 101, 100, 32]⟩ : ByteArray)) ++ t303) ++ (⟨#[32, 111, 114, 105, 103, 105, 110, 32]⟩ : ByteArray)) ++ (rdOf ByteArray.empty ae ac)) ++ (⟨#[32, 112, 97, 116, 104, 32, 91]⟩ : ByteArray)).size + t305.size ≤ 9223372036854775807
          ·rw [if_pos ay] at H
           have c15b0 := eq_true ay
           have c15b1 : decide ((((((((⟨#[112, 114, 101, 102, 32]⟩ : ByteArray) ++ t302) ++ (⟨#[32, 109, 101, 100, 32]⟩ : ByteArray)) ++ t303) ++ (⟨#[32, 111, 114, 105, 103, 105, 110, 32]⟩ : ByteArray)) ++ (rdOf ByteArray.empty ae ac)) ++ (⟨#[32, 112, 97, 116, 104, 32, 91]⟩ : ByteArray)).size + t305.size ≤ 9223372036854775807) = true := decide_eq_true ay
           try have c15b2 : (9223372036854775807 < (((((((⟨#[112, 114, 101, 102, 32]⟩ : ByteArray) ++ t302) ++ (⟨#[32, 109, 101, 100, 32]⟩ : ByteArray)) ++ t303) ++ (⟨#[32, 111, 114, 105, 103, 105, 110, 32]⟩ : ByteArray)) ++ (rdOf ByteArray.empty ae ac)) ++ (⟨#[32, 112, 97, 116, 104, 32, 91]⟩ : ByteArray)).size + t305.size) = False := eq_false (Nat.not_lt.2 ay)
           try have c15b3 : (9223372036854775807 < 5 + t302.size + 5 + t303.size + 8 + ((rdOf ByteArray.empty ae ac)).size + 7 + t305.size) = False := eq_false (Nat.not_lt.2 (by have h_ := ay; simp only [ByteArray.size_append] at h_; exact h_))
           by_cases az : ((((((((⟨#[112, 114, 101, 102, 32]⟩ : ByteArray) ++ t302) ++ (⟨#[32, 109, 101, 100, 32]⟩ : ByteArray)) ++ t303) ++ (⟨#[32, 111, 114, 105, 103, 105, 110, 32]⟩ : ByteArray)) ++ (rdOf ByteArray.empty ae ac)) ++ (⟨#[32, 112, 97, 116, 104, 32, 91]⟩ : ByteArray)) ++ t305).size + 9 ≤ 9223372036854775807
           ·rw [if_pos az] at H
            have c16b0 := eq_true az
            have c16b1 : decide (((((((((⟨#[112, 114, 101, 102, 32]⟩ : ByteArray) ++ t302) ++ (⟨#[32, 109, 101, 100, 32]⟩ : ByteArray)) ++ t303) ++ (⟨#[32, 111, 114, 105, 103, 105, 110, 32]⟩ : ByteArray)) ++ (rdOf ByteArray.empty ae ac)) ++ (⟨#[32, 112, 97, 116, 104, 32, 91]⟩ : ByteArray)) ++ t305).size + 9 ≤ 9223372036854775807) = true := decide_eq_true az
            try have c16b2 : (9223372036854775807 < ((((((((⟨#[112, 114, 101, 102, 32]⟩ : ByteArray) ++ t302) ++ (⟨#[32, 109, 101, 100, 32]⟩ : ByteArray)) ++ t303) ++ (⟨#[32, 111, 114, 105, 103, 105, 110, 32]⟩ : ByteArray)) ++ (rdOf ByteArray.empty ae ac)) ++ (⟨#[32, 112, 97, 116, 104, 32, 91]⟩ : ByteArray)) ++ t305).size + 9) = False := eq_false (Nat.not_lt.2 az)
            try have c16b3 : (9223372036854775807 < 5 + t302.size + 5 + t303.size + 8 + ((rdOf ByteArray.empty ae ac)).size + 7 + t305.size + 9) = False := eq_false (Nat.not_lt.2 (by have h_ := az; simp only [ByteArray.size_append] at h_; exact h_))
            replace H := Option.bind_eq_some_iff.mp H
            obtain ⟨t306, A170, H⟩ := H
            (try dsimp only at H)
            have A17 := Aside0.mk A170
            clear A170
            by_cases a7 : (((((((((⟨#[112, 114, 101, 102, 32]⟩ : ByteArray) ++ t302) ++ (⟨#[32, 109, 101, 100, 32]⟩ : ByteArray)) ++ t303) ++ (⟨#[32, 111, 114, 105, 103, 105, 110, 32]⟩ : ByteArray)) ++ (rdOf ByteArray.empty ae ac)) ++ (⟨#[32, 112, 97, 116, 104, 32, 91]⟩ : ByteArray)) ++ t305) ++ (⟨#[93, 32, 99, 111, 109, 109, 115, 32, 91]⟩ : ByteArray)).size + t306.size ≤ 9223372036854775807
            ·rw [if_pos a7] at H
             have c18b0 := eq_true a7
             have c18b1 : decide ((((((((((⟨#[112, 114, 101, 102, 32]⟩ : ByteArray) ++ t302) ++ (⟨#[32, 109, 101, 100, 32]⟩ : ByteArray)) ++ t303) ++ (⟨#[32, 111, 114, 105, 103, 105, 110, 32]⟩ : ByteArray)) ++ (rdOf ByteArray.empty ae ac)) ++ (⟨#[32, 112, 97, 116, 104, 32, 91]⟩ : ByteArray)) ++ t305) ++ (⟨#[93, 32, 99, 111, 109, 109, 115, 32, 91]⟩ : ByteArray)).size + t306.size ≤ 9223372036854775807) = true := decide_eq_true a7
             try have c18b2 : (9223372036854775807 < (((((((((⟨#[112, 114, 101, 102, 32]⟩ : ByteArray) ++ t302) ++ (⟨#[32, 109, 101, 100, 32]⟩ : ByteArray)) ++ t303) ++ (⟨#[32, 111, 114, 105, 103, 105, 110, 32]⟩ : ByteArray)) ++ (rdOf ByteArray.empty ae ac)) ++ (⟨#[32, 112, 97, 116, 104, 32, 91]⟩ : ByteArray)) ++ t305) ++ (⟨#[93, 32, 99, 111, 109, 109, 115, 32, 91]⟩ : ByteArray)).size + t306.size) = False := eq_false (Nat.not_lt.2 a7)
             try have c18b3 : (9223372036854775807 < 5 + t302.size + 5 + t303.size + 8 + ((rdOf ByteArray.empty ae ac)).size + 7 + t305.size + 9 + t306.size) = False := eq_false (Nat.not_lt.2 (by have h_ := a7; simp only [ByteArray.size_append] at h_; exact h_))
             by_cases a8 : ((((((((((⟨#[112, 114, 101, 102, 32]⟩ : ByteArray) ++ t302) ++ (⟨#[32, 109, 101, 100, 32]⟩ : ByteArray)) ++ t303) ++ (⟨#[32, 111, 114, 105, 103, 105, 110, 32]⟩ : ByteArray)) ++ (rdOf ByteArray.empty ae ac)) ++ (⟨#[32, 112, 97, 116, 104, 32, 91]⟩ : ByteArray)) ++ t305) ++ (⟨#[93, 32, 99, 111, 109, 109, 115, 32, 91]⟩ : ByteArray)) ++ t306).size + 1 ≤ 9223372036854775807
             ·rw [if_pos a8] at H
              have c19b0 := eq_true a8
              have c19b1 : decide (((((((((((⟨#[112, 114, 101, 102, 32]⟩ : ByteArray) ++ t302) ++ (⟨#[32, 109, 101, 100, 32]⟩ : ByteArray)) ++ t303) ++ (⟨#[32, 111, 114, 105, 103, 105, 110, 32]⟩ : ByteArray)) ++ (rdOf ByteArray.empty ae ac)) ++ (⟨#[32, 112, 97, 116, 104, 32, 91]⟩ : ByteArray)) ++ t305) ++ (⟨#[93, 32, 99, 111, 109, 109, 115, 32, 91]⟩ : ByteArray)) ++ t306).size + 1 ≤ 9223372036854775807) = true := decide_eq_true a8
              try have c19b2 : (9223372036854775807 < ((((((((((⟨#[112, 114, 101, 102, 32]⟩ : ByteArray) ++ t302) ++ (⟨#[32, 109, 101, 100, 32]⟩ : ByteArray)) ++ t303) ++ (⟨#[32, 111, 114, 105, 103, 105, 110, 32]⟩ : ByteArray)) ++ (rdOf ByteArray.empty ae ac)) ++ (⟨#[32, 112, 97, 116, 104, 32, 91]⟩ : ByteArray)) ++ t305) ++ (⟨#[93, 32, 99, 111, 109, 109, 115, 32, 91]⟩ : ByteArray)) ++ t306).size + 1) = False := eq_false (Nat.not_lt.2 a8)
              try have c19b3 : (9223372036854775807 < 5 + t302.size + 5 + t303.size + 8 + ((rdOf ByteArray.empty ae ac)).size + 7 + t305.size + 9 + t306.size + 1) = False := eq_false (Nat.not_lt.2 (by have h_ := a8; simp only [ByteArray.size_append] at h_; exact h_))
              have HC20 := Aside0.mk H
              clear H
              go_enter Try.func17, Try.ntmps17
              try go_wp2_with (first | ((with_reducible refine gate_dst (N := 1) rfl ?_); refine box_event ?hg (N := 1) ?hd (cs := #[.int .i64 aj, .int .i64 ak, .int .i64 ac, .slice am ah.length an, .slice ao ai.length ap, .int .i64 af, .slice ar ad.length aq]) (t := 30) ?hr ?_; (case hd => rfl); (case hg => rfl); (case hr => first | (go_simp; done) | (go_simp; rfl)); intro ab hg w21 hbox hb; have n0_ := Aside0.mk (below_step (by repeat (first | (with_reducible first | exact HB.out | apply below_alloc | apply pw_below_drewN | apply below_drew1) | exact HB.out)) hb); have n1_ := Aside0.mk (hbox); have n2_ := Aside0.mk ((by rw [hg]; exact (below_size (by repeat (first | (with_reducible first | exact HB.out | apply below_alloc | apply pw_below_drewN | apply below_drew1) | exact HB.out))) : w.heap.size ≤ ab)); have n3_ := Aside0.mk ((by rw [hg]; exact (below_size (by repeat (first | (with_reducible first | exact HB.out | apply below_alloc | apply pw_below_drewN | apply below_drew1) | exact HB.out))) : w.heap.size ≤ ab)); clear HB; have HB := n0_; have aa := n1_; have GW297 := n2_; have ag := n3_; clear n0_ n1_ n2_ n3_; clear hb hbox hg; have hcz22_0 : w21.cell? ⟨ab, 0, none⟩ = some (.int .i64 aj) := (blk_cell aa.out 0).trans rfl; have hcz22_1 : w21.cell? ⟨ab, 1, none⟩ = some (.int .i64 ak) := (blk_cell aa.out 1).trans rfl; have hcz22_2 : w21.cell? ⟨ab, 2, none⟩ = some (.int .i64 ac) := (blk_cell aa.out 2).trans rfl; have hcz22_3 : w21.cell? ⟨ab, 3, none⟩ = some (.slice am ah.length an) := (blk_cell aa.out 3).trans rfl; have hcz22_4 : w21.cell? ⟨ab, 4, none⟩ = some (.slice ao ai.length ap) := (blk_cell aa.out 4).trans rfl; have hcz22_5 : w21.cell? ⟨ab, 5, none⟩ = some (.int .i64 af) := (blk_cell aa.out 5).trans rfl; have hcz22_6 : w21.cell? ⟨ab, 6, none⟩ = some (.slice ar ad.length aq) := (blk_cell aa.out 6).trans rfl; have hfz22_0 := blk_frozen aa.out 0; have hfz22_1 := blk_frozen aa.out 1; have hfz22_2 := blk_frozen aa.out 2; have hfz22_3 := blk_frozen aa.out 3; have hfz22_4 := blk_frozen aa.out 4; have hfz22_5 := blk_frozen aa.out 5; have hfz22_6 := blk_frozen aa.out 6) | ((with_reducible refine gate_callee (f := 16) rfl ?_); refine goesL_ (some 7) rfl rfl Try.func16 (by kernel_rfl) rfl #[.agg #[.int .i64 aj, .int .i64 ak, .int .i64 ac, .slice am ah.length an, .slice ao ai.length ap, .int .i64 af, .slice ar ad.length aq]] rfl (by (try simp only [List.map_toArray, List.map_cons, List.map_nil]); first | done | rfl) ?_; (with_reducible refine (whirligigref09_May.calls k aj ak ac _ _ ah _ _ ai af _ _ ad true _ ?side1 ?side2 ?side3 ?side4 ?side5 ?side6 A2.out).mono ?_); (case side1 | side3 | side5 => repeat (first | exact (Kd.C_below HR0_3.out HB.out) | exact (Kd.C_below HR0_4.out HB.out) | exact (Kd.C_below HR0_6.out HB.out) | (with_reducible refine Kd.C_alloc ?_ _) | (with_reducible refine Kd.C_drewN ?_ _) | (with_reducible refine Kd.C_drew ?_))); (case side2 | side4 | side6 => first | exact HC0_3.out | exact HC0_4.out | exact HC0_6.out); rintro e w23 ⟨rfl, hb⟩; refine ⟨_, rfl, ?_⟩; replace aa := Aside0.mk (blk_below (g := ab) (by (with_reducible repeat (first | refine blk_drewN ?_ _ | refine blk_drew ?_ | refine blk_alloc ?_ _)); exact aa.out) hb); replace HB := Aside0.mk (below_step (by repeat (first | (with_reducible first | exact HB.out | apply below_alloc | apply pw_below_drewN | apply below_drew1 | refine below_set ?_ ag.out) | exact HB.out)) hb); (try clear hb); (try clear au); (try clear hk); (try clear hi)) | ((with_reducible refine gate_dst (N := 9) rfl ?_); refine Kd.R_lit Kd.string _ 9 ?hg (N := 9) ?hd (xs := ([(⟨#[105, 103, 112]⟩ : ByteArray), (⟨#[101, 103, 112]⟩ : ByteArray), (⟨#[110, 111, 110, 101]⟩ : ByteArray)] : List ByteArray)) (inner := [.string (⟨#[105, 103, 112]⟩ : ByteArray), .string (⟨#[101, 103, 112]⟩ : ByteArray), .string (⟨#[110, 111, 110, 101]⟩ : ByteArray)]) (ok := fun _ => True) (okp := fun _ => True) ?hr ?hp (fun _ hk => hk) trivial (Below.refl _ _) (Nat.le_refl _) (by simp) ?_; (case hd => rfl); (case hg => rfl); (case hr => first | (go_simp; done) | (go_simp; rfl)); (case hp => exact (Reps.one (show Kd.M Kd.string _ _ _ (⟨#[105, 103, 112]⟩ : ByteArray) [.string (⟨#[105, 103, 112]⟩ : ByteArray)] from rfl) (Reps.one (show Kd.M Kd.string _ _ _ (⟨#[101, 103, 112]⟩ : ByteArray) [.string (⟨#[101, 103, 112]⟩ : ByteArray)] from rfl) (Reps.one (show Kd.M Kd.string _ _ _ (⟨#[110, 111, 110, 101]⟩ : ByteArray) [.string (⟨#[110, 111, 110, 101]⟩ : ByteArray)] from rfl) (Reps.none _ _))))); intro v300 w24 ho25 hb hg_ hnew_; clear hg_ hnew_; (first | rw [← Ny299.out] at ho25 | (simp only [Int.reduceToNat] at ho25; rw [← Ny299.out] at ho25)); have al := Aside0.mk (Kd.R_lower ho25 (below_size (by repeat (first | (with_reducible first | exact HB.out | apply below_alloc | apply pw_below_drewN | apply below_drew1 | refine below_set ?_ ag.out) | exact HB.out)))); replace aa := Aside0.mk (blk_below (g := ab) (by (with_reducible repeat (first | refine blk_drewN ?_ _ | refine blk_drew ?_ | refine blk_alloc ?_ _)); exact aa.out) hb); replace HB := Aside0.mk (below_step (by repeat (first | (with_reducible first | exact HB.out | apply below_alloc | apply pw_below_drewN | apply below_drew1 | refine below_set ?_ ag.out) | exact HB.out)) hb); clear hb ho25))
              have n0_ := Aside0.mk (Kd.R_drew al.out)
              have n1_ := Aside0.mk (blk_drew aa.out)
              have n2_ := Aside0.mk (below_drew1 HB.out)
              clear al
              clear aa
              clear HB
              have al := n0_
              have aa := n1_
              have HB := n2_
              clear n0_ n1_ n2_
              obtain ⟨Ao27, co27, eo27⟩ := Kd.R_slice al.out
              (first | subst eo27 | (injection eo27 with f1_ f2_ f3_; have f4_ := f1_.symm; have f5_ := f3_.symm; clear f1_ f2_ f3_; subst f4_; subst f5_))
              have p304 : 0 ≤ (ac : Int) := of_decide_eq_true (by first | (with_reducible assumption) | assumption)
              have q304 : ac < (ae.length : Int) := of_decide_eq_true (by first | (with_reducible assumption) | assumption)
              obtain ⟨ad304, e304, hx304_0⟩ := Kd.at_string (Kd.R_reads' al.out).2.2 ac p304 q304
              cases e304
              replace p304 := eq_true p304
              replace q304 := eq_true q304
              refine start_ (n := 28) (S := fun w' => w'.cell? ⟨ab, 0, none⟩ = some (.int .i64 aj) ∧ w'.cell? ⟨ab, 1, none⟩ = some (.int .i64 ak) ∧ w'.cell? ⟨ab, 2, none⟩ = some (.int .i64 ac) ∧ w'.cell? ⟨ab, 3, none⟩ = some (.slice am ah.length an) ∧ w'.cell? ⟨ab, 4, none⟩ = some (.slice ao ai.length ap) ∧ w'.cell? ⟨ab, 5, none⟩ = some (.int .i64 af) ∧ w'.cell? ⟨ab, 6, none⟩ = some (.slice ar ad.length aq) ∧ w'.cell? (ad304.add (ac).toNat) = some (.string (rdOf ByteArray.empty ae ac))) (ds := []) #[false, false, false, false, false, false, false, false, false, false, false, false, false, false, false, false, false, false, false, false, false, false, false, false, false, false, false, false] (by kernel_rfl) rfl rfl (k3b39.b7 aa.out hx304_0) (fun hHeld => ?_); refine with_tabW whirligigref09_Text.tab4 whirligigref09_Text.bits4 (fun HT_ HW_ => ?_)
              generalize w24.drew = w26 at al aa HB hx304_0 hHeld ⊢
              refine pure_ (i := 0) (N := some 10) (v := ?_) (a' := ?_) #[true, false, false, false, false, false, false, false, false, false, false, false, false, false, false, false, false, false, false, false, false, false, false, false, false, false, false, false] rfl rfl (any_of HT_.out (by kernel_rfl)) (fun _ _ _ h => h) (Or.inl ⟨by rfl, ?_⟩) ?_ ?_
              rotate_left
              ·intro w'
               go_simp
               with_reducible rfl
              rotate_left
              ·simp only [Act.put, List.setIfInBounds_toArray, List.set_cons_zero, List.set_cons_succ, i64_w, i32_w]
               rfl
              refine pure_ (i := 5) (N := some 15) (v := ?_) (a' := ?_) #[true, false, false, false, false, true, false, false, false, false, false, false, false, false, false, false, false, false, false, false, false, false, false, false, false, false, false, false] rfl rfl (any_of HT_.out (by kernel_rfl)) (fun _ _ _ h => h) (Or.inl ⟨by rfl, ?_⟩) ?_ ?_
              rotate_left
              ·intro w'
               go_simp
               with_reducible rfl
              rotate_left
              ·simp only [Act.put, List.setIfInBounds_toArray, List.set_cons_zero, List.set_cons_succ, i64_w, i32_w]
               rfl
              refine pure_ (i := 10) (N := some 20) (v := ?_) (a' := ?_) #[true, false, false, false, false, true, false, false, false, false, true, false, false, false, false, false, false, false, false, false, false, false, false, false, false, false, false, false] rfl rfl (any_of HT_.out (by kernel_rfl)) (fun _ _ _ h => h) (Or.inl ⟨by rfl, ?_⟩) ?_ ?_
              rotate_left
              ·intro w'
               go_simp
               with_reducible rfl
              rotate_left
              ·simp only [Act.put, List.setIfInBounds_toArray, List.set_cons_zero, List.set_cons_succ, i64_w, i32_w]
               rfl
              refine pure_ (i := 11) (N := some 21) (v := ?_) (a' := ?_) #[true, false, false, false, false, true, false, false, false, false, true, true, false, false, false, false, false, false, false, false, false, false, false, false, false, false, false, false] rfl rfl (any_of HT_.out (by kernel_rfl)) (fun _ _ _ h => h) (Or.inl ⟨by rfl, ?_⟩) ?_ ?_
              rotate_left
              ·intro w'
               go_simp
               with_reducible rfl
              rotate_left
              ·simp only [Act.put, List.setIfInBounds_toArray, List.set_cons_zero, List.set_cons_succ, i64_w, i32_w]
               rfl
              refine pure_ (i := 17) (N := some 27) (v := ?_) (a' := ?_) #[true, false, false, false, false, true, false, false, false, false, true, true, false, false, false, false, false, true, false, false, false, false, false, false, false, false, false, false] rfl rfl (any_of HT_.out (by kernel_rfl)) (fun _ _ _ h => h) (Or.inl ⟨by rfl, ?_⟩) ?_ ?_
              rotate_left
              ·intro w'
               go_simp
               with_reducible rfl
              rotate_left
              ·simp only [Act.put, List.setIfInBounds_toArray, List.set_cons_zero, List.set_cons_succ, i64_w, i32_w]
               rfl
              refine pure_ (i := 22) (N := some 32) (v := ?_) (a' := ?_) #[true, false, false, false, false, true, false, false, false, false, true, true, false, false, false, false, false, true, false, false, false, false, true, false, false, false, false, false] rfl rfl (any_of HT_.out (by kernel_rfl)) (fun _ _ _ h => h) (Or.inl ⟨by rfl, ?_⟩) ?_ ?_
              rotate_left
              ·intro w'
               go_simp
               with_reducible rfl
              rotate_left
              ·simp only [Act.put, List.setIfInBounds_toArray, List.set_cons_zero, List.set_cons_succ, i64_w, i32_w]
               rfl
              refine take_ (i := 1) (N := some 11) (v := ?_) (a' := ?_) #[true, true, false, false, false, true, false, false, false, false, true, true, false, false, false, false, false, true, false, false, false, false, true, false, false, false, false, false] rfl rfl (take_ofW HT_.out HW_.out (by kernel_rfl)) (fun _ _ _ h => h) (Or.inl ⟨by rfl, ?_⟩) hHeld ?_ ?_
              rotate_left
              ·rintro w' ⟨s0, s1, s2, s3, s4, s5, s6, s7⟩
               go_simp
               with_reducible rfl
              rotate_left
              ·simp only [Act.put, List.setIfInBounds_toArray, List.set_cons_zero, List.set_cons_succ, i64_w, i32_w]
               rfl
              refine take_ (i := 6) (N := some 16) (v := ?_) (a' := ?_) #[true, true, false, false, false, true, true, false, false, false, true, true, false, false, false, false, false, true, false, false, false, false, true, false, false, false, false, false] rfl rfl (take_ofW HT_.out HW_.out (by kernel_rfl)) (fun _ _ _ h => h) (Or.inl ⟨by rfl, ?_⟩) hHeld ?_ ?_
              rotate_left
              ·rintro w' ⟨s0, s1, s2, s3, s4, s5, s6, s7⟩
               go_simp
               with_reducible rfl
              rotate_left
              ·simp only [Act.put, List.setIfInBounds_toArray, List.set_cons_zero, List.set_cons_succ, i64_w, i32_w]
               rfl
              refine take_ (i := 12) (N := some 22) (v := ?_) (a' := ?_) #[true, true, false, false, false, true, true, false, false, false, true, true, true, false, false, false, false, true, false, false, false, false, true, false, false, false, false, false] rfl rfl (take_ofW HT_.out HW_.out (by kernel_rfl)) (fun _ _ _ h => h) (Or.inl ⟨by rfl, ?_⟩) hHeld ?_ ?_
              rotate_left
              ·rintro w' ⟨s0, s1, s2, s3, s4, s5, s6, s7⟩
               go_simp
               with_reducible rfl
              rotate_left
              ·simp only [Act.put, List.setIfInBounds_toArray, List.set_cons_zero, List.set_cons_succ, i64_w, i32_w]
               rfl
              refine pure_ (i := 13) (N := some 23) (v := ?_) (a' := ?_) #[true, true, false, false, false, true, true, false, false, false, true, true, true, true, false, false, false, true, false, false, false, false, true, false, false, false, false, false] rfl rfl (any_of HT_.out (by kernel_rfl)) (fun _ _ _ h => h) (Or.inl ⟨by rfl, ?_⟩) ?_ ?_
              rotate_left
              ·intro w'
               go_simp
               with_reducible rfl
              rotate_left
              ·simp only [Act.put, List.setIfInBounds_toArray, List.set_cons_zero, List.set_cons_succ, i64_w, i32_w]
               rfl
              refine take_ (i := 14) (N := some 24) (v := ?_) (a' := ?_) #[true, true, false, false, false, true, true, false, false, false, true, true, true, true, true, false, false, true, false, false, false, false, true, false, false, false, false, false] rfl rfl (take_ofW HT_.out HW_.out (by kernel_rfl)) (fun _ _ _ h => h) (Or.inl ⟨by rfl, ?_⟩) hHeld ?_ ?_
              rotate_left
              ·rintro w' ⟨s0, s1, s2, s3, s4, s5, s6, s7⟩
               go_simp
               with_reducible rfl
              rotate_left
              ·simp only [Act.put, List.setIfInBounds_toArray, List.set_cons_zero, List.set_cons_succ, i64_w, i32_w]
               rfl
              refine take_ (i := 18) (N := some 28) (v := ?_) (a' := ?_) #[true, true, false, false, false, true, true, false, false, false, true, true, true, true, true, false, false, true, true, false, false, false, true, false, false, false, false, false] rfl rfl (take_ofW HT_.out HW_.out (by kernel_rfl)) (fun _ _ _ h => h) (Or.inl ⟨by rfl, ?_⟩) hHeld ?_ ?_
              rotate_left
              ·rintro w' ⟨s0, s1, s2, s3, s4, s5, s6, s7⟩
               go_simp
               with_reducible rfl
              rotate_left
              ·simp only [Act.put, List.setIfInBounds_toArray, List.set_cons_zero, List.set_cons_succ, i64_w, i32_w]
               rfl
              refine take_ (i := 23) (N := some 33) (v := ?_) (a' := ?_) #[true, true, false, false, false, true, true, false, false, false, true, true, true, true, true, false, false, true, true, false, false, false, true, true, false, false, false, false] rfl rfl (take_ofW HT_.out HW_.out (by kernel_rfl)) (fun _ _ _ h => h) (Or.inl ⟨by rfl, ?_⟩) hHeld ?_ ?_
              rotate_left
              ·rintro w' ⟨s0, s1, s2, s3, s4, s5, s6, s7⟩
               go_simp
               with_reducible rfl
              rotate_left
              ·simp only [Act.put, List.setIfInBounds_toArray, List.set_cons_zero, List.set_cons_succ, i64_w, i32_w]
               rfl
              refine one_ (i := 2) (N := some 12) #[true, true, true, false, false, true, true, false, false, false, true, true, true, true, true, false, false, true, true, false, false, false, true, true, false, false, false, false] rfl rfl (one_of HT_.out (by kernel_rfl)) (by decide) (fun K hK => ?_)
              refine goes_ Try.func47 (by kernel_rfl) rfl #[.int .i64 aj] (by rfl) rfl rfl (by (try simp only [List.map_toArray, List.map_cons, List.map_nil]); first | done | rfl) ?_
              with_reducible refine (whirligigref01_Number.calls k aj t302 _ A4.out).mono ?_
              rintro e w28 ⟨rfl, hb⟩
              have HS7_ := (hb.cell (World.block_lt_of_cell? _ _ (hHeld.2.2.2.2.2.2.2))).trans (hHeld.2.2.2.2.2.2.2)
              refine ⟨_, rfl, ?_⟩
              replace al := Aside0.mk (Kd.R_below (by (with_reducible repeat (first | apply Kd.R_alloc | apply Kd.R_drewN | apply Kd.R_drew)); exact al.out) hb)
              replace aa := Aside0.mk (blk_below (g := ab) (by (with_reducible repeat (first | refine blk_drewN ?_ _ | refine blk_drew ?_ | refine blk_alloc ?_ _)); exact aa.out) hb)
              replace HB := Aside0.mk (below_step (by repeat (first | (with_reducible first | exact HB.out | apply below_alloc | apply pw_below_drewN | apply below_drew1 | refine below_set ?_ ag.out) | exact HB.out)) hb)
              (try clear hb)
              (try clear au)
              (try clear hk)
              (try clear hi)
              refine hK.out _ _ (k3b39.b7 aa.out HS7_) (fun hHeld => ?_)
              clear hK K
              refine norm_ (a' := ?_) ?_ ?_
              rotate_left
              ·show Act.put _ (some 12) _ = _
               simp only [Act.put, List.setIfInBounds_toArray, List.set_cons_zero, List.set_cons_succ, i64_w, i32_w]
               rfl
              refine pure_ (i := 3) (N := some 13) (v := ?_) (a' := ?_) #[true, true, true, true, false, true, true, false, false, false, true, true, true, true, true, false, false, true, true, false, false, false, true, true, false, false, false, false] rfl rfl (any_of HT_.out (by kernel_rfl)) (fun _ _ _ h => h) (Or.inl ⟨by rfl, ?_⟩) ?_ ?_
              rotate_left
              ·intro w'
               go_simp
               with_reducible rfl
              rotate_left
              ·simp only [Act.put, List.setIfInBounds_toArray, List.set_cons_zero, List.set_cons_succ, i64_w, i32_w]
               rfl
              refine pure_ (i := 4) (N := some 14) (v := ?_) (a' := ?_) #[true, true, true, true, true, true, true, false, false, false, true, true, true, true, true, false, false, true, true, false, false, false, true, true, false, false, false, false] rfl rfl (any_of HT_.out (by kernel_rfl)) (fun _ _ _ h => h) (Or.inl ⟨by rfl, ?_⟩) ?_ ?_
              rotate_left
              ·intro w'
               go_simp
               with_reducible rfl
              rotate_left
              ·simp only [Act.put, List.setIfInBounds_toArray, List.set_cons_zero, List.set_cons_succ, i64_w, i32_w]
               rfl
              refine one_ (i := 7) (N := some 17) #[true, true, true, true, true, true, true, true, false, false, true, true, true, true, true, false, false, true, true, false, false, false, true, true, false, false, false, false] rfl rfl (one_of HT_.out (by kernel_rfl)) (by decide) (fun K hK => ?_)
              refine goes_ Try.func47 (by kernel_rfl) rfl #[.int .i64 ak] (by rfl) rfl rfl (by (try simp only [List.map_toArray, List.map_cons, List.map_nil]); first | done | rfl) ?_
              with_reducible refine (whirligigref01_Number.calls k ak t303 _ A7.out).mono ?_
              rintro e w29 ⟨rfl, hb⟩
              have HS7_ := (hb.cell (World.block_lt_of_cell? _ _ (hHeld.2.2.2.2.2.2.2))).trans (hHeld.2.2.2.2.2.2.2)
              refine ⟨_, rfl, ?_⟩
              replace al := Aside0.mk (Kd.R_below (by (with_reducible repeat (first | apply Kd.R_alloc | apply Kd.R_drewN | apply Kd.R_drew)); exact al.out) hb)
              replace aa := Aside0.mk (blk_below (g := ab) (by (with_reducible repeat (first | refine blk_drewN ?_ _ | refine blk_drew ?_ | refine blk_alloc ?_ _)); exact aa.out) hb)
              replace HB := Aside0.mk (below_step (by repeat (first | (with_reducible first | exact HB.out | apply below_alloc | apply pw_below_drewN | apply below_drew1 | refine below_set ?_ ag.out) | exact HB.out)) hb)
              (try clear hb)
              (try clear au)
              (try clear hk)
              (try clear hi)
              refine hK.out _ _ (k3b39.b7 aa.out HS7_) (fun hHeld => ?_)
              clear hK K
              refine norm_ (a' := ?_) ?_ ?_
              rotate_left
              ·show Act.put _ (some 17) _ = _
               simp only [Act.put, List.setIfInBounds_toArray, List.set_cons_zero, List.set_cons_succ, i64_w, i32_w]
               rfl
              refine pure_ (i := 8) (N := some 18) (v := ?_) (a' := ?_) #[true, true, true, true, true, true, true, true, true, false, true, true, true, true, true, false, false, true, true, false, false, false, true, true, false, false, false, false] rfl rfl (any_of HT_.out (by kernel_rfl)) (fun _ _ _ h => h) (Or.inl ⟨by rfl, ?_⟩) ?_ ?_
              rotate_left
              ·intro w'
               go_simp
               with_reducible rfl
              rotate_left
              ·simp only [Act.put, List.setIfInBounds_toArray, List.set_cons_zero, List.set_cons_succ, i64_w, i32_w]
               rfl
              refine pure_ (i := 9) (N := some 19) (v := ?_) (a' := ?_) #[true, true, true, true, true, true, true, true, true, true, true, true, true, true, true, false, false, true, true, false, false, false, true, true, false, false, false, false] rfl rfl (any_of HT_.out (by kernel_rfl)) (fun _ _ _ h => h) (Or.inl ⟨by rfl, ?_⟩) ?_ ?_
              rotate_left
              ·intro w'
               go_simp
               with_reducible rfl
              rotate_left
              ·simp only [Act.put, List.setIfInBounds_toArray, List.set_cons_zero, List.set_cons_succ, i64_w, i32_w]
               rfl
              refine pure_ (i := 15) (N := some 25) (v := ?_) (a' := ?_) #[true, true, true, true, true, true, true, true, true, true, true, true, true, true, true, true, false, true, true, false, false, false, true, true, false, false, false, false] rfl rfl (any_of HT_.out (by kernel_rfl)) (fun _ _ _ h => h) (Or.inl ⟨by rfl, ?_⟩) ?_ ?_
              rotate_left
              ·intro w'
               go_simp
               with_reducible rfl
              rotate_left
              ·simp only [Act.put, List.setIfInBounds_toArray, List.set_cons_zero, List.set_cons_succ, i64_w, i32_w]
               rfl
              refine pure_ (i := 16) (N := some 26) (v := ?_) (a' := ?_) #[true, true, true, true, true, true, true, true, true, true, true, true, true, true, true, true, true, true, true, false, false, false, true, true, false, false, false, false] rfl rfl (any_of HT_.out (by kernel_rfl)) (fun _ _ _ h => h) (Or.inl ⟨by rfl, ?_⟩) ?_ ?_
              rotate_left
              ·intro w'
               go_simp
               with_reducible rfl
              rotate_left
              ·simp only [Act.put, List.setIfInBounds_toArray, List.set_cons_zero, List.set_cons_succ, i64_w, i32_w]
               rfl
              refine one_ (i := 19) (N := some 29) #[true, true, true, true, true, true, true, true, true, true, true, true, true, true, true, true, true, true, true, true, false, false, true, true, false, false, false, false] rfl rfl (one_of HT_.out (by kernel_rfl)) (by decide) (fun K hK => ?_)
              refine goes_ Try.func48 (by kernel_rfl) rfl #[.slice am ah.length an] (by rfl) rfl rfl (by (try simp only [List.map_toArray, List.map_cons, List.map_nil]); first | done | rfl) ?_
              with_reducible refine (whirligigref04_Text.calls k _ _ ah t305 _ ?side1 ?side2 A14.out).mono ?_
              (case side1 => repeat (first | exact (Kd.C_below HR0_3.out HB.out) | (with_reducible refine Kd.C_alloc ?_ _) | (with_reducible refine Kd.C_drewN ?_ _) | (with_reducible refine Kd.C_drew ?_)))
              (case side2 => exact HC0_3.out)
              rintro e w30 ⟨rfl, hb⟩
              have HS7_ := (hb.cell (World.block_lt_of_cell? _ _ (hHeld.2.2.2.2.2.2.2))).trans (hHeld.2.2.2.2.2.2.2)
              refine ⟨_, rfl, ?_⟩
              replace al := Aside0.mk (Kd.R_below (by (with_reducible repeat (first | apply Kd.R_alloc | apply Kd.R_drewN | apply Kd.R_drew)); exact al.out) hb)
              replace aa := Aside0.mk (blk_below (g := ab) (by (with_reducible repeat (first | refine blk_drewN ?_ _ | refine blk_drew ?_ | refine blk_alloc ?_ _)); exact aa.out) hb)
              replace HB := Aside0.mk (below_step (by repeat (first | (with_reducible first | exact HB.out | apply below_alloc | apply pw_below_drewN | apply below_drew1 | refine below_set ?_ ag.out) | exact HB.out)) hb)
              (try clear hb)
              (try clear au)
              (try clear hk)
              (try clear hi)
              refine hK.out _ _ (k3b39.b7 aa.out HS7_) (fun hHeld => ?_)
              clear hK K
              refine norm_ (a' := ?_) ?_ ?_
              rotate_left
              ·show Act.put _ (some 29) _ = _
               simp only [Act.put, List.setIfInBounds_toArray, List.set_cons_zero, List.set_cons_succ, i64_w, i32_w]
               rfl
              refine pure_ (i := 20) (N := some 30) (v := ?_) (a' := ?_) #[true, true, true, true, true, true, true, true, true, true, true, true, true, true, true, true, true, true, true, true, true, false, true, true, false, false, false, false] rfl rfl (any_of HT_.out (by kernel_rfl)) (fun _ _ _ h => h) (Or.inl ⟨by rfl, ?_⟩) ?_ ?_
              rotate_left
              ·intro w'
               go_simp
               with_reducible rfl
              rotate_left
              ·simp only [Act.put, List.setIfInBounds_toArray, List.set_cons_zero, List.set_cons_succ, i64_w, i32_w]
               rfl
              refine pure_ (i := 21) (N := some 31) (v := ?_) (a' := ?_) #[true, true, true, true, true, true, true, true, true, true, true, true, true, true, true, true, true, true, true, true, true, true, true, true, false, false, false, false] rfl rfl (any_of HT_.out (by kernel_rfl)) (fun _ _ _ h => h) (Or.inl ⟨by rfl, ?_⟩) ?_ ?_
              rotate_left
              ·intro w'
               go_simp
               with_reducible rfl
              rotate_left
              ·simp only [Act.put, List.setIfInBounds_toArray, List.set_cons_zero, List.set_cons_succ, i64_w, i32_w]
               rfl
              refine one_ (i := 24) (N := some 34) #[true, true, true, true, true, true, true, true, true, true, true, true, true, true, true, true, true, true, true, true, true, true, true, true, true, false, false, false] rfl rfl (one_of HT_.out (by kernel_rfl)) (by decide) (fun K hK => ?_)
              refine goes_ Try.func49 (by kernel_rfl) rfl #[.slice ao ai.length ap] (by rfl) rfl rfl (by (try simp only [List.map_toArray, List.map_cons, List.map_nil]); first | done | rfl) ?_
              with_reducible refine (whirligigref03_Texts.calls k _ _ ai t306 _ ?side1 ?side2 A17.out).mono ?_
              (case side1 => repeat (first | exact (Kd.C_below HR0_4.out HB.out) | (with_reducible refine Kd.C_alloc ?_ _) | (with_reducible refine Kd.C_drewN ?_ _) | (with_reducible refine Kd.C_drew ?_)))
              (case side2 => exact HC0_4.out)
              rintro e w31 ⟨rfl, hb⟩
              have HS7_ := (hb.cell (World.block_lt_of_cell? _ _ (hHeld.2.2.2.2.2.2.2))).trans (hHeld.2.2.2.2.2.2.2)
              refine ⟨_, rfl, ?_⟩
              replace al := Aside0.mk (Kd.R_below (by (with_reducible repeat (first | apply Kd.R_alloc | apply Kd.R_drewN | apply Kd.R_drew)); exact al.out) hb)
              replace aa := Aside0.mk (blk_below (g := ab) (by (with_reducible repeat (first | refine blk_drewN ?_ _ | refine blk_drew ?_ | refine blk_alloc ?_ _)); exact aa.out) hb)
              replace HB := Aside0.mk (below_step (by repeat (first | (with_reducible first | exact HB.out | apply below_alloc | apply pw_below_drewN | apply below_drew1 | refine below_set ?_ ag.out) | exact HB.out)) hb)
              (try clear hb)
              (try clear au)
              (try clear hk)
              (try clear hi)
              refine hK.out _ _ (k3b39.b7 aa.out HS7_) (fun hHeld => ?_)
              clear hK K
              refine norm_ (a' := ?_) ?_ ?_
              rotate_left
              ·show Act.put _ (some 34) _ = _
               simp only [Act.put, List.setIfInBounds_toArray, List.set_cons_zero, List.set_cons_succ, i64_w, i32_w]
               rfl
              refine pure_ (i := 25) (N := some 35) (v := ?_) (a' := ?_) #[true, true, true, true, true, true, true, true, true, true, true, true, true, true, true, true, true, true, true, true, true, true, true, true, true, true, false, false] rfl rfl (any_of HT_.out (by kernel_rfl)) (fun _ _ _ h => h) (Or.inl ⟨by rfl, ?_⟩) ?_ ?_
              rotate_left
              ·intro w'
               go_simp
               with_reducible rfl
              rotate_left
              ·simp only [Act.put, List.setIfInBounds_toArray, List.set_cons_zero, List.set_cons_succ, i64_w, i32_w]
               rfl
              refine pure_ (i := 26) (N := some 36) (v := ?_) (a' := ?_) #[true, true, true, true, true, true, true, true, true, true, true, true, true, true, true, true, true, true, true, true, true, true, true, true, true, true, true, false] rfl rfl (any_of HT_.out (by kernel_rfl)) (fun _ _ _ h => h) (Or.inl ⟨by rfl, ?_⟩) ?_ ?_
              rotate_left
              ·intro w'
               go_simp
               with_reducible rfl
              rotate_left
              ·simp only [Act.put, List.setIfInBounds_toArray, List.set_cons_zero, List.set_cons_succ, i64_w, i32_w]
               rfl
              refine pure_ (i := 27) (N := some 4) (v := ?_) (a' := ?_) #[true, true, true, true, true, true, true, true, true, true, true, true, true, true, true, true, true, true, true, true, true, true, true, true, true, true, true, true] rfl rfl (any_of HT_.out (by kernel_rfl)) (fun _ _ _ h => h) (Or.inl ⟨by rfl, ?_⟩) ?_ ?_
              rotate_left
              ·intro w'
               go_simp
               with_reducible rfl
              rotate_left
              ·simp only [Act.put, List.setIfInBounds_toArray, List.set_cons_zero, List.set_cons_succ, i64_w, i32_w]
               rfl
              refine done_ (done_of HT_.out (by kernel_rfl)) ?_
              have hcz32_0 : w31.cell? ⟨ab, 0, none⟩ = some (.int .i64 aj) := (blk_cell aa.out 0).trans rfl
              have hcz32_1 : w31.cell? ⟨ab, 1, none⟩ = some (.int .i64 ak) := (blk_cell aa.out 1).trans rfl
              have hcz32_2 : w31.cell? ⟨ab, 2, none⟩ = some (.int .i64 ac) := (blk_cell aa.out 2).trans rfl
              have hcz32_3 : w31.cell? ⟨ab, 3, none⟩ = some (.slice am ah.length an) := (blk_cell aa.out 3).trans rfl
              have hcz32_4 : w31.cell? ⟨ab, 4, none⟩ = some (.slice ao ai.length ap) := (blk_cell aa.out 4).trans rfl
              have hcz32_5 : w31.cell? ⟨ab, 5, none⟩ = some (.int .i64 af) := (blk_cell aa.out 5).trans rfl
              have hcz32_6 : w31.cell? ⟨ab, 6, none⟩ = some (.slice ar ad.length aq) := (blk_cell aa.out 6).trans rfl
              have hfz32_0 := blk_frozen aa.out 0
              have hfz32_1 := blk_frozen aa.out 1
              have hfz32_2 := blk_frozen aa.out 2
              have hfz32_3 := blk_frozen aa.out 3
              have hfz32_4 := blk_frozen aa.out 4
              have hfz32_5 := blk_frozen aa.out 5
              have hfz32_6 := blk_frozen aa.out 6
              go_upto_if 39 with (fail)
              go_cut [4] (fun v4 wc => ∃ (kq : Nat) (x4_19 : ByteArray), v4 = .string x4_19 ∧ Aside0 (whirligigref09_Text.j0 kq x4_19 aj ak ac ah ai af ad = some r) ∧ Aside0 (kq ≤ k) ∧ Aside0 (wc.heap[ab]? = some (.cells #[.int .i64 aj, .int .i64 ak, .int .i64 ac, (.slice am ah.length an), (.slice ao ai.length ap), .int .i64 af, (.slice ar ad.length aq)] 30 (0, 0))) ∧ Aside0 (Below w.heap.size w wc))
              case first =>
               have H := HC20.out
               clear HC20
               by_cases av : af = 0
               ·rw [if_pos av] at H
                have c33b0 : (af == 0) = true := beq_iff_eq.mpr av
                have c33b1 : (af != 0) = false := bne_eq_false_iff_eq.mpr av
                clear av
                (first | rw [c33b0] | (simp only [i64_w, i32_w]; rw [c33b0]) | skip)
                have H' := Aside0.mk H
                clear H
                go_wp2
                go_meet
                case rel => exact ⟨_, (((((((((((⟨#[112, 114, 101, 102, 32]⟩ : ByteArray) ++ t302) ++ (⟨#[32, 109, 101, 100, 32]⟩ : ByteArray)) ++ t303) ++ (⟨#[32, 111, 114, 105, 103, 105, 110, 32]⟩ : ByteArray)) ++ (rdOf ByteArray.empty ae ac)) ++ (⟨#[32, 112, 97, 116, 104, 32, 91]⟩ : ByteArray)) ++ t305) ++ (⟨#[93, 32, 99, 111, 109, 109, 115, 32, 91]⟩ : ByteArray)) ++ t306) ++ (⟨#[93]⟩ : ByteArray)), (by first | rfl | (simp; done) | (simp [*]; done)), H', ⟨by first | omega | exact Nat.le_refl _⟩, ⟨by (with_reducible repeat (first | refine blk_drewN ?_ _ | refine blk_drew ?_ | refine blk_alloc ?_ _)); exact aa.out⟩, ⟨by repeat (first | (with_reducible first | exact HB.out | apply below_alloc | apply pw_below_drewN | apply below_drew1 | refine below_set ?_ ag.out) | exact HB.out)⟩⟩
               ·rw [if_neg av] at H
                have c33b0 : (af == 0) = false := beq_eq_false_iff_ne.mpr av
                have c33b1 : (af != 0) = true := bne_iff_ne.mpr av
                (first | rw [c33b0] | (simp only [i64_w, i32_w]; rw [c33b0]) | skip)
                by_cases a9 : (((((((((((⟨#[112, 114, 101, 102, 32]⟩ : ByteArray) ++ t302) ++ (⟨#[32, 109, 101, 100, 32]⟩ : ByteArray)) ++ t303) ++ (⟨#[32, 111, 114, 105, 103, 105, 110, 32]⟩ : ByteArray)) ++ (rdOf ByteArray.empty ae ac)) ++ (⟨#[32, 112, 97, 116, 104, 32, 91]⟩ : ByteArray)) ++ t305) ++ (⟨#[93, 32, 99, 111, 109, 109, 115, 32, 91]⟩ : ByteArray)) ++ t306) ++ (⟨#[93]⟩ : ByteArray)).size + 6 ≤ 9223372036854775807
                ·rw [if_pos a9] at H
                 have c34b0 := eq_true a9
                 have c34b1 : decide ((((((((((((⟨#[112, 114, 101, 102, 32]⟩ : ByteArray) ++ t302) ++ (⟨#[32, 109, 101, 100, 32]⟩ : ByteArray)) ++ t303) ++ (⟨#[32, 111, 114, 105, 103, 105, 110, 32]⟩ : ByteArray)) ++ (rdOf ByteArray.empty ae ac)) ++ (⟨#[32, 112, 97, 116, 104, 32, 91]⟩ : ByteArray)) ++ t305) ++ (⟨#[93, 32, 99, 111, 109, 109, 115, 32, 91]⟩ : ByteArray)) ++ t306) ++ (⟨#[93]⟩ : ByteArray)).size + 6 ≤ 9223372036854775807) = true := decide_eq_true a9
                 try have c34b2 : (9223372036854775807 < (((((((((((⟨#[112, 114, 101, 102, 32]⟩ : ByteArray) ++ t302) ++ (⟨#[32, 109, 101, 100, 32]⟩ : ByteArray)) ++ t303) ++ (⟨#[32, 111, 114, 105, 103, 105, 110, 32]⟩ : ByteArray)) ++ (rdOf ByteArray.empty ae ac)) ++ (⟨#[32, 112, 97, 116, 104, 32, 91]⟩ : ByteArray)) ++ t305) ++ (⟨#[93, 32, 99, 111, 109, 109, 115, 32, 91]⟩ : ByteArray)) ++ t306) ++ (⟨#[93]⟩ : ByteArray)).size + 6) = False := eq_false (Nat.not_lt.2 a9)
                 try have c34b3 : (9223372036854775807 < 5 + t302.size + 5 + t303.size + 8 + ((rdOf ByteArray.empty ae ac)).size + 7 + t305.size + 9 + t306.size + 1 + 6) = False := eq_false (Nat.not_lt.2 (by have h_ := a9; simp only [ByteArray.size_append] at h_; exact h_))
                 replace H := Option.bind_eq_some_iff.mp H
                 obtain ⟨t307, A350, H⟩ := H
                 (try dsimp only at H)
                 have A35 := Aside0.mk A350
                 clear A350
                 by_cases ba : ((((((((((((⟨#[112, 114, 101, 102, 32]⟩ : ByteArray) ++ t302) ++ (⟨#[32, 109, 101, 100, 32]⟩ : ByteArray)) ++ t303) ++ (⟨#[32, 111, 114, 105, 103, 105, 110, 32]⟩ : ByteArray)) ++ (rdOf ByteArray.empty ae ac)) ++ (⟨#[32, 112, 97, 116, 104, 32, 91]⟩ : ByteArray)) ++ t305) ++ (⟨#[93, 32, 99, 111, 109, 109, 115, 32, 91]⟩ : ByteArray)) ++ t306) ++ (⟨#[93]⟩ : ByteArray)) ++ (⟨#[32, 102, 114, 111, 109, 32]⟩ : ByteArray)).size + t307.size ≤ 9223372036854775807
                 ·rw [if_pos ba] at H
                  have c36b0 := eq_true ba
                  have c36b1 : decide (((((((((((((⟨#[112, 114, 101, 102, 32]⟩ : ByteArray) ++ t302) ++ (⟨#[32, 109, 101, 100, 32]⟩ : ByteArray)) ++ t303) ++ (⟨#[32, 111, 114, 105, 103, 105, 110, 32]⟩ : ByteArray)) ++ (rdOf ByteArray.empty ae ac)) ++ (⟨#[32, 112, 97, 116, 104, 32, 91]⟩ : ByteArray)) ++ t305) ++ (⟨#[93, 32, 99, 111, 109, 109, 115, 32, 91]⟩ : ByteArray)) ++ t306) ++ (⟨#[93]⟩ : ByteArray)) ++ (⟨#[32, 102, 114, 111, 109, 32]⟩ : ByteArray)).size + t307.size ≤ 9223372036854775807) = true := decide_eq_true ba
                  try have c36b2 : (9223372036854775807 < ((((((((((((⟨#[112, 114, 101, 102, 32]⟩ : ByteArray) ++ t302) ++ (⟨#[32, 109, 101, 100, 32]⟩ : ByteArray)) ++ t303) ++ (⟨#[32, 111, 114, 105, 103, 105, 110, 32]⟩ : ByteArray)) ++ (rdOf ByteArray.empty ae ac)) ++ (⟨#[32, 112, 97, 116, 104, 32, 91]⟩ : ByteArray)) ++ t305) ++ (⟨#[93, 32, 99, 111, 109, 109, 115, 32, 91]⟩ : ByteArray)) ++ t306) ++ (⟨#[93]⟩ : ByteArray)) ++ (⟨#[32, 102, 114, 111, 109, 32]⟩ : ByteArray)).size + t307.size) = False := eq_false (Nat.not_lt.2 ba)
                  try have c36b3 : (9223372036854775807 < 5 + t302.size + 5 + t303.size + 8 + ((rdOf ByteArray.empty ae ac)).size + 7 + t305.size + 9 + t306.size + 1 + 6 + t307.size) = False := eq_false (Nat.not_lt.2 (by have h_ := ba; simp only [ByteArray.size_append] at h_; exact h_))
                  have H' := Aside0.mk H
                  clear H
                  have hcz37_0 : w31.cell? ⟨ab, 0, none⟩ = some (.int .i64 aj) := (blk_cell aa.out 0).trans rfl
                  have hcz37_1 : w31.cell? ⟨ab, 1, none⟩ = some (.int .i64 ak) := (blk_cell aa.out 1).trans rfl
                  have hcz37_2 : w31.cell? ⟨ab, 2, none⟩ = some (.int .i64 ac) := (blk_cell aa.out 2).trans rfl
                  have hcz37_3 : w31.cell? ⟨ab, 3, none⟩ = some (.slice am ah.length an) := (blk_cell aa.out 3).trans rfl
                  have hcz37_4 : w31.cell? ⟨ab, 4, none⟩ = some (.slice ao ai.length ap) := (blk_cell aa.out 4).trans rfl
                  have hcz37_5 : w31.cell? ⟨ab, 5, none⟩ = some (.int .i64 af) := (blk_cell aa.out 5).trans rfl
                  have hcz37_6 : w31.cell? ⟨ab, 6, none⟩ = some (.slice ar ad.length aq) := (blk_cell aa.out 6).trans rfl
                  have hfz37_0 := blk_frozen aa.out 0
                  have hfz37_1 := blk_frozen aa.out 1
                  have hfz37_2 := blk_frozen aa.out 2
                  have hfz37_3 := blk_frozen aa.out 3
                  have hfz37_4 := blk_frozen aa.out 4
                  have hfz37_5 := blk_frozen aa.out 5
                  have hfz37_6 := blk_frozen aa.out 6
                  go_wp2_with (first | ((with_reducible refine gate_callee (f := 47) rfl ?_); refine goesL_ (some 44) rfl rfl Try.func47 (by kernel_rfl) rfl #[.int .i64 af] rfl (by (try simp only [List.map_toArray, List.map_cons, List.map_nil]); first | done | rfl) ?_; (with_reducible refine (whirligigref01_Number.calls k af t307 _ A35.out).mono ?_); rintro e w38 ⟨rfl, hb⟩; refine ⟨_, rfl, ?_⟩; replace al := Aside0.mk (Kd.R_below (by (with_reducible repeat (first | apply Kd.R_alloc | apply Kd.R_drewN | apply Kd.R_drew)); exact al.out) hb); replace aa := Aside0.mk (blk_below (g := ab) (by (with_reducible repeat (first | refine blk_drewN ?_ _ | refine blk_drew ?_ | refine blk_alloc ?_ _)); exact aa.out) hb); replace HB := Aside0.mk (below_step (by repeat (first | (with_reducible first | exact HB.out | apply below_alloc | apply pw_below_drewN | apply below_drew1 | refine below_set ?_ ag.out) | exact HB.out)) hb); (try clear hb); (try clear au); (try clear hk); (try clear hi)))
                  go_meet
                  case rel => exact ⟨_, (((((((((((((⟨#[112, 114, 101, 102, 32]⟩ : ByteArray) ++ t302) ++ (⟨#[32, 109, 101, 100, 32]⟩ : ByteArray)) ++ t303) ++ (⟨#[32, 111, 114, 105, 103, 105, 110, 32]⟩ : ByteArray)) ++ (rdOf ByteArray.empty ae ac)) ++ (⟨#[32, 112, 97, 116, 104, 32, 91]⟩ : ByteArray)) ++ t305) ++ (⟨#[93, 32, 99, 111, 109, 109, 115, 32, 91]⟩ : ByteArray)) ++ t306) ++ (⟨#[93]⟩ : ByteArray)) ++ (⟨#[32, 102, 114, 111, 109, 32]⟩ : ByteArray)) ++ t307), (by first | rfl | (simp; done) | (simp [*]; done)), H', ⟨by first | omega | exact Nat.le_refl _⟩, ⟨by (with_reducible repeat (first | refine blk_drewN ?_ _ | refine blk_drew ?_ | refine blk_alloc ?_ _)); exact aa.out⟩, ⟨by repeat (first | (with_reducible first | exact HB.out | apply below_alloc | apply pw_below_drewN | apply below_drew1 | refine below_set ?_ ag.out) | exact HB.out)⟩⟩
                 ·rw [if_neg ba] at H
                  exact absurd H (by simp)
                ·rw [if_neg a9] at H
                 exact absurd H (by simp)
              case rest =>
               clear HC20
               try clear c1
               try clear p2
               try clear c3
               try clear p3
               try clear q3
               try clear hx3
               try clear c4
               try clear c5
               try clear c5b0
               try clear c5b1
               try clear c5b2
               try clear c6
               try clear c6b0
               try clear c6b1
               try clear c6b2
               try clear c8
               try clear c8b0
               try clear c8b1
               try clear c8b2
               try clear c9
               try clear c9b0
               try clear c9b1
               try clear c9b2
               try clear c10
               try clear c10b0
               try clear c11
               try clear c11b0
               try clear aw
               try clear c12b0
               try clear c12b1
               try clear c12b2
               try clear ax
               try clear c13b0
               try clear c13b1
               try clear c13b2
               try clear ay
               try clear c15b0
               try clear c15b1
               try clear c15b2
               try clear az
               try clear c16b0
               try clear c16b1
               try clear c16b2
               try clear c17
               try clear a7
               try clear c18b0
               try clear c18b1
               try clear c18b2
               try clear a8
               try clear c19b0
               try clear c19b1
               try clear c19b2
               try clear p30
               try clear q30
               try clear hx30
               try clear av
               try clear c33b0
               try clear c33b1
               try clear a9
               try clear c34b0
               try clear c34b1
               try clear c34b2
               try clear ba
               try clear c36b0
               try clear c36b1
               try clear c36b2
               try clear hcz22_0
               try clear hcz22_1
               try clear hcz22_2
               try clear hcz22_3
               try clear hcz22_4
               try clear hcz22_5
               try clear hcz22_6
               try clear hcz32_0
               try clear hcz32_1
               try clear hcz32_2
               try clear hcz32_3
               try clear hcz32_4
               try clear hcz32_5
               try clear hcz32_6
               try clear hcz37_0
               try clear hcz37_1
               try clear hcz37_2
               try clear hcz37_3
               try clear hcz37_4
               try clear hcz37_5
               try clear hcz37_6
               try clear hfz22_0
               try clear hfz22_1
               try clear hfz22_2
               try clear hfz22_3
               try clear hfz22_4
               try clear hfz22_5
               try clear hfz22_6
               try clear hfz32_0
               try clear hfz32_1
               try clear hfz32_2
               try clear hfz32_3
               try clear hfz32_4
               try clear hfz32_5
               try clear hfz32_6
               try clear hfz37_0
               try clear hfz37_1
               try clear hfz37_2
               try clear hfz37_3
               try clear hfz37_4
               try clear hfz37_5
               try clear hfz37_6
               try clear hx304_0
               try clear p304
               try clear q304
               obtain ⟨kq, x4_19, rfl, HA, HJ19, aa, HB⟩ := hcut
               cases kq with
               | zero => exact absurd HA.out (by simp [whirligigref09_Text.j0])
               | succ kj19 =>
                have H := HA.out
                clear HA
                simp only [whirligigref09_Text.j0] at H
                have H' := Aside0.mk H
                clear H
                go_wp2
                go_loopg [4, 5] kj19 (fun kq v4 v5 w' => ∃ (x4_2 : ByteArray) (x5_2 : Int), v4 = .string x4_2 ∧ v5 = .int .i64 x5_2 ∧ Aside0 (whirligigref09_Text.l0 kq x4_2 x5_2 aj ak ac ah ai af ad = some r) ∧ Aside0 (kq ≤ kj19) ∧ Aside0 (w'.heap[ab]? = some (.cells #[.int .i64 aj, .int .i64 ak, .int .i64 ac, (.slice am ah.length an), (.slice ao ai.length ap), .int .i64 af, (.slice ar ad.length aq)] 30 (0, 0))) ∧ Aside0 (Below w.heap.size w w'))
                case atStart => exact ⟨(x4_19), (0), (by first | rfl | (simp; done) | (simp [*]; done)), (by first | rfl | (simp; done) | (simp [*]; done)), H', ⟨Nat.le_refl _⟩, ⟨by (with_reducible repeat (first | refine blk_drewN ?_ _ | refine blk_drew ?_ | refine blk_alloc ?_ _)); exact aa.out⟩, ⟨by repeat (first | (with_reducible first | exact HB.out | apply below_alloc | apply pw_below_drewN | apply below_drew1 | refine below_set ?_ ag.out) | exact HB.out)⟩⟩
                case round =>
                 clear H'
                 try clear c1
                 try clear p2
                 try clear c3
                 try clear p3
                 try clear q3
                 try clear hx3
                 try clear c4
                 try clear c5
                 try clear c5b0
                 try clear c5b1
                 try clear c5b2
                 try clear c6
                 try clear c6b0
                 try clear c6b1
                 try clear c6b2
                 try clear c8
                 try clear c8b0
                 try clear c8b1
                 try clear c8b2
                 try clear c9
                 try clear c9b0
                 try clear c9b1
                 try clear c9b2
                 try clear c10
                 try clear c10b0
                 try clear c11
                 try clear c11b0
                 try clear aw
                 try clear c12b0
                 try clear c12b1
                 try clear c12b2
                 try clear ax
                 try clear c13b0
                 try clear c13b1
                 try clear c13b2
                 try clear ay
                 try clear c15b0
                 try clear c15b1
                 try clear c15b2
                 try clear az
                 try clear c16b0
                 try clear c16b1
                 try clear c16b2
                 try clear c17
                 try clear a7
                 try clear c18b0
                 try clear c18b1
                 try clear c18b2
                 try clear a8
                 try clear c19b0
                 try clear c19b1
                 try clear c19b2
                 try clear p30
                 try clear q30
                 try clear hx30
                 try clear av
                 try clear c33b0
                 try clear c33b1
                 try clear a9
                 try clear c34b0
                 try clear c34b1
                 try clear c34b2
                 try clear ba
                 try clear c36b0
                 try clear c36b1
                 try clear c36b2
                 try clear hcz22_0
                 try clear hcz22_1
                 try clear hcz22_2
                 try clear hcz22_3
                 try clear hcz22_4
                 try clear hcz22_5
                 try clear hcz22_6
                 try clear hcz32_0
                 try clear hcz32_1
                 try clear hcz32_2
                 try clear hcz32_3
                 try clear hcz32_4
                 try clear hcz32_5
                 try clear hcz32_6
                 try clear hcz37_0
                 try clear hcz37_1
                 try clear hcz37_2
                 try clear hcz37_3
                 try clear hcz37_4
                 try clear hcz37_5
                 try clear hcz37_6
                 try clear hfz22_0
                 try clear hfz22_1
                 try clear hfz22_2
                 try clear hfz22_3
                 try clear hfz22_4
                 try clear hfz22_5
                 try clear hfz22_6
                 try clear hfz32_0
                 try clear hfz32_1
                 try clear hfz32_2
                 try clear hfz32_3
                 try clear hfz32_4
                 try clear hfz32_5
                 try clear hfz32_6
                 try clear hfz37_0
                 try clear hfz37_1
                 try clear hfz37_2
                 try clear hfz37_3
                 try clear hfz37_4
                 try clear hfz37_5
                 try clear hfz37_6
                 try clear hx304_0
                 try clear p2
                 try clear p3
                 try clear p30
                 try clear p304
                 try clear q3
                 try clear q30
                 try clear q304
                 obtain ⟨x4_2, x5_2, rfl, rfl, HA, HK2, aa, HB⟩ := hrel
                 cases gk with
                 | zero => exact absurd HA.out (by simp [whirligigref09_Text.l0])
                 | succ k2 =>
                  have H := HA.out
                  clear HA
                  simp only [whirligigref09_Text.l0] at H
                  by_cases c39 : x5_2 < (ad.length : Int)
                  ·rw [if_pos c39] at H
                   have c39b0 : decide (x5_2 < (ad.length : Int)) = true := decide_eq_true c39
                   clear c39
                   by_cases c40 : x5_2 = 0
                   ·rw [if_pos c40] at H
                    have c40b0 : (x5_2 == 0) = true := beq_iff_eq.mpr c40
                    have c40b1 : (x5_2 != 0) = false := bne_eq_false_iff_eq.mpr c40
                    clear c40
                    by_cases c41 : x4_2.size + 11 ≤ 9223372036854775807
                    ·rw [if_pos c41] at H
                     have c41b0 := eq_true c41
                     have c41b1 : decide (x4_2.size + 11 ≤ 9223372036854775807) = true := decide_eq_true c41
                     try have c41b2 : (9223372036854775807 < x4_2.size + 11) = False := eq_false (Nat.not_lt.2 c41)
                     by_cases c42 : 0 ≤ x5_2
                     ·rw [if_pos c42] at H
                      have c42b0 : decide (0 ≤ x5_2) = true := decide_eq_true c42
                      clear c42
                      replace H := Option.bind_eq_some_iff.mp H
                      obtain ⟨t309, A430, H⟩ := H
                      (try dsimp only at H)
                      have A43 := Aside0.mk A430
                      clear A430
                      by_cases c44 : (x4_2 ++ (⟨#[32, 99, 108, 117, 115, 116, 101, 114, 115, 32, 91]⟩ : ByteArray)).size + t309.size ≤ 9223372036854775807
                      ·rw [if_pos c44] at H
                       have c44b0 := eq_true c44
                       have c44b1 : decide ((x4_2 ++ (⟨#[32, 99, 108, 117, 115, 116, 101, 114, 115, 32, 91]⟩ : ByteArray)).size + t309.size ≤ 9223372036854775807) = true := decide_eq_true c44
                       try have c44b2 : (9223372036854775807 < (x4_2 ++ (⟨#[32, 99, 108, 117, 115, 116, 101, 114, 115, 32, 91]⟩ : ByteArray)).size + t309.size) = False := eq_false (Nat.not_lt.2 c44)
                       try have c44b3 : (9223372036854775807 < x4_2.size + 11 + t309.size) = False := eq_false (Nat.not_lt.2 (by have h_ := c44; simp only [ByteArray.size_append] at h_; exact h_))
                       by_cases c45 : x5_2 = (wrap64 ((ad.length : Int) - 1))
                       ·rw [if_pos c45] at H
                        have c45b0 : (x5_2 == (wrap64 ((ad.length : Int) - 1))) = true := beq_iff_eq.mpr c45
                        have c45b1 : (x5_2 != (wrap64 ((ad.length : Int) - 1))) = false := bne_eq_false_iff_eq.mpr c45
                        clear c45
                        by_cases c46 : ((x4_2 ++ (⟨#[32, 99, 108, 117, 115, 116, 101, 114, 115, 32, 91]⟩ : ByteArray)) ++ t309).size + 1 ≤ 9223372036854775807
                        ·rw [if_pos c46] at H
                         have c46b0 := eq_true c46
                         have c46b1 : decide (((x4_2 ++ (⟨#[32, 99, 108, 117, 115, 116, 101, 114, 115, 32, 91]⟩ : ByteArray)) ++ t309).size + 1 ≤ 9223372036854775807) = true := decide_eq_true c46
                         try have c46b2 : (9223372036854775807 < ((x4_2 ++ (⟨#[32, 99, 108, 117, 115, 116, 101, 114, 115, 32, 91]⟩ : ByteArray)) ++ t309).size + 1) = False := eq_false (Nat.not_lt.2 c46)
                         try have c46b3 : (9223372036854775807 < x4_2.size + 11 + t309.size + 1) = False := eq_false (Nat.not_lt.2 (by have h_ := c46; simp only [ByteArray.size_append] at h_; exact h_))
                         have H' := Aside0.mk H
                         clear H
                         have hcz47_0 : wr.cell? ⟨ab, 0, none⟩ = some (.int .i64 aj) := (blk_cell aa.out 0).trans rfl
                         have hcz47_1 : wr.cell? ⟨ab, 1, none⟩ = some (.int .i64 ak) := (blk_cell aa.out 1).trans rfl
                         have hcz47_2 : wr.cell? ⟨ab, 2, none⟩ = some (.int .i64 ac) := (blk_cell aa.out 2).trans rfl
                         have hcz47_3 : wr.cell? ⟨ab, 3, none⟩ = some (.slice am ah.length an) := (blk_cell aa.out 3).trans rfl
                         have hcz47_4 : wr.cell? ⟨ab, 4, none⟩ = some (.slice ao ai.length ap) := (blk_cell aa.out 4).trans rfl
                         have hcz47_5 : wr.cell? ⟨ab, 5, none⟩ = some (.int .i64 af) := (blk_cell aa.out 5).trans rfl
                         have hcz47_6 : wr.cell? ⟨ab, 6, none⟩ = some (.slice ar ad.length aq) := (blk_cell aa.out 6).trans rfl
                         have hfz47_0 := blk_frozen aa.out 0
                         have hfz47_1 := blk_frozen aa.out 1
                         have hfz47_2 := blk_frozen aa.out 2
                         have hfz47_3 := blk_frozen aa.out 3
                         have hfz47_4 := blk_frozen aa.out 4
                         have hfz47_5 := blk_frozen aa.out 5
                         have hfz47_6 := blk_frozen aa.out 6
                         have p308 : 0 ≤ (x5_2 : Int) := of_decide_eq_true (by first | (with_reducible assumption) | assumption)
                         have q308 : x5_2 < (ad.length : Int) := of_decide_eq_true (by first | (with_reducible assumption) | assumption)
                         obtain ⟨ad308, e308, hx308_0⟩ := Kd.at_int HR0_6.out x5_2 p308 q308
                         cases e308
                         replace hx308_0 := (HB.out.cell (World.block_lt_of_cell? w _ hx308_0)).trans hx308_0
                         replace p308 := eq_true p308
                         replace q308 := eq_true q308
                         go_wp2_with (first | ((with_reducible refine gate_callee (f := 47) rfl ?_); refine goesL_ (some 65) rfl rfl Try.func47 (by kernel_rfl) rfl #[.int .i64 (rd ad x5_2)] rfl (by (try simp only [List.map_toArray, List.map_cons, List.map_nil]); first | done | rfl) ?_; (with_reducible refine (whirligigref01_Number.calls k2 (rd ad x5_2) t309 _ A43.out).mono ?_); rintro e w48 ⟨rfl, hb⟩; refine ⟨_, rfl, ?_⟩; replace aa := Aside0.mk (blk_below (g := ab) (by (with_reducible repeat (first | refine blk_drewN ?_ _ | refine blk_drew ?_ | refine blk_alloc ?_ _)); exact aa.out) hb); replace HB := Aside0.mk (below_step (by repeat (first | (with_reducible first | exact HB.out | apply below_alloc | apply pw_below_drewN | apply below_drew1 | refine below_set ?_ ag.out) | exact HB.out)) hb); (try clear hb); (try clear au); (try clear hk); (try clear hi); have hcz49_0 : w48.cell? ⟨ab, 0, none⟩ = some (.int .i64 aj) := (blk_cell aa.out 0).trans rfl; have hcz49_1 : w48.cell? ⟨ab, 1, none⟩ = some (.int .i64 ak) := (blk_cell aa.out 1).trans rfl; have hcz49_2 : w48.cell? ⟨ab, 2, none⟩ = some (.int .i64 ac) := (blk_cell aa.out 2).trans rfl; have hcz49_3 : w48.cell? ⟨ab, 3, none⟩ = some (.slice am ah.length an) := (blk_cell aa.out 3).trans rfl; have hcz49_4 : w48.cell? ⟨ab, 4, none⟩ = some (.slice ao ai.length ap) := (blk_cell aa.out 4).trans rfl; have hcz49_5 : w48.cell? ⟨ab, 5, none⟩ = some (.int .i64 af) := (blk_cell aa.out 5).trans rfl; have hcz49_6 : w48.cell? ⟨ab, 6, none⟩ = some (.slice (some ad308) ad.length aq) := (blk_cell aa.out 6).trans rfl; have hfz49_0 := blk_frozen aa.out 0; have hfz49_1 := blk_frozen aa.out 1; have hfz49_2 := blk_frozen aa.out 2; have hfz49_3 := blk_frozen aa.out 3; have hfz49_4 := blk_frozen aa.out 4; have hfz49_5 := blk_frozen aa.out 5; have hfz49_6 := blk_frozen aa.out 6))
                         go_roundg k2
                         case measure => have := HJ19.out; have := HK2.out; omega
                         case rel => exact ⟨(((x4_2 ++ (⟨#[32, 99, 108, 117, 115, 116, 101, 114, 115, 32, 91]⟩ : ByteArray)) ++ t309) ++ (⟨#[93]⟩ : ByteArray)), (wrap64 (x5_2 + 1)), (by first | rfl | (simp; done) | (simp [*]; done)), (by first | rfl | (simp; done) | (simp [*]; done)), H', ⟨by have := HJ19.out; have := HK2.out; omega⟩, ⟨by (with_reducible repeat (first | refine blk_drewN ?_ _ | refine blk_drew ?_ | refine blk_alloc ?_ _)); exact aa.out⟩, ⟨by repeat (first | (with_reducible first | exact HB.out | apply below_alloc | apply pw_below_drewN | apply below_drew1 | refine below_set ?_ ag.out) | exact HB.out)⟩⟩
                        ·rw [if_neg c46] at H
                         exact absurd H (by simp)
                       ·rw [if_neg c45] at H
                        have c45b0 : (x5_2 == (wrap64 ((ad.length : Int) - 1))) = false := beq_eq_false_iff_ne.mpr c45
                        have c45b1 : (x5_2 != (wrap64 ((ad.length : Int) - 1))) = true := bne_iff_ne.mpr c45
                        have H' := Aside0.mk H
                        clear H
                        have hcz50_0 : wr.cell? ⟨ab, 0, none⟩ = some (.int .i64 aj) := (blk_cell aa.out 0).trans rfl
                        have hcz50_1 : wr.cell? ⟨ab, 1, none⟩ = some (.int .i64 ak) := (blk_cell aa.out 1).trans rfl
                        have hcz50_2 : wr.cell? ⟨ab, 2, none⟩ = some (.int .i64 ac) := (blk_cell aa.out 2).trans rfl
                        have hcz50_3 : wr.cell? ⟨ab, 3, none⟩ = some (.slice am ah.length an) := (blk_cell aa.out 3).trans rfl
                        have hcz50_4 : wr.cell? ⟨ab, 4, none⟩ = some (.slice ao ai.length ap) := (blk_cell aa.out 4).trans rfl
                        have hcz50_5 : wr.cell? ⟨ab, 5, none⟩ = some (.int .i64 af) := (blk_cell aa.out 5).trans rfl
                        have hcz50_6 : wr.cell? ⟨ab, 6, none⟩ = some (.slice ar ad.length aq) := (blk_cell aa.out 6).trans rfl
                        have hfz50_0 := blk_frozen aa.out 0
                        have hfz50_1 := blk_frozen aa.out 1
                        have hfz50_2 := blk_frozen aa.out 2
                        have hfz50_3 := blk_frozen aa.out 3
                        have hfz50_4 := blk_frozen aa.out 4
                        have hfz50_5 := blk_frozen aa.out 5
                        have hfz50_6 := blk_frozen aa.out 6
                        have p308 : 0 ≤ (x5_2 : Int) := of_decide_eq_true (by first | (with_reducible assumption) | assumption)
                        have q308 : x5_2 < (ad.length : Int) := of_decide_eq_true (by first | (with_reducible assumption) | assumption)
                        obtain ⟨ad308, e308, hx308_0⟩ := Kd.at_int HR0_6.out x5_2 p308 q308
                        cases e308
                        replace hx308_0 := (HB.out.cell (World.block_lt_of_cell? w _ hx308_0)).trans hx308_0
                        replace p308 := eq_true p308
                        replace q308 := eq_true q308
                        go_wp2_with (first | ((with_reducible refine gate_callee (f := 47) rfl ?_); refine goesL_ (some 65) rfl rfl Try.func47 (by kernel_rfl) rfl #[.int .i64 (rd ad x5_2)] rfl (by (try simp only [List.map_toArray, List.map_cons, List.map_nil]); first | done | rfl) ?_; (with_reducible refine (whirligigref01_Number.calls k2 (rd ad x5_2) t309 _ A43.out).mono ?_); rintro e w51 ⟨rfl, hb⟩; refine ⟨_, rfl, ?_⟩; replace aa := Aside0.mk (blk_below (g := ab) (by (with_reducible repeat (first | refine blk_drewN ?_ _ | refine blk_drew ?_ | refine blk_alloc ?_ _)); exact aa.out) hb); replace HB := Aside0.mk (below_step (by repeat (first | (with_reducible first | exact HB.out | apply below_alloc | apply pw_below_drewN | apply below_drew1 | refine below_set ?_ ag.out) | exact HB.out)) hb); (try clear hb); (try clear au); (try clear hk); (try clear hi); have hcz52_0 : w51.cell? ⟨ab, 0, none⟩ = some (.int .i64 aj) := (blk_cell aa.out 0).trans rfl; have hcz52_1 : w51.cell? ⟨ab, 1, none⟩ = some (.int .i64 ak) := (blk_cell aa.out 1).trans rfl; have hcz52_2 : w51.cell? ⟨ab, 2, none⟩ = some (.int .i64 ac) := (blk_cell aa.out 2).trans rfl; have hcz52_3 : w51.cell? ⟨ab, 3, none⟩ = some (.slice am ah.length an) := (blk_cell aa.out 3).trans rfl; have hcz52_4 : w51.cell? ⟨ab, 4, none⟩ = some (.slice ao ai.length ap) := (blk_cell aa.out 4).trans rfl; have hcz52_5 : w51.cell? ⟨ab, 5, none⟩ = some (.int .i64 af) := (blk_cell aa.out 5).trans rfl; have hcz52_6 : w51.cell? ⟨ab, 6, none⟩ = some (.slice (some ad308) ad.length aq) := (blk_cell aa.out 6).trans rfl; have hfz52_0 := blk_frozen aa.out 0; have hfz52_1 := blk_frozen aa.out 1; have hfz52_2 := blk_frozen aa.out 2; have hfz52_3 := blk_frozen aa.out 3; have hfz52_4 := blk_frozen aa.out 4; have hfz52_5 := blk_frozen aa.out 5; have hfz52_6 := blk_frozen aa.out 6))
                        go_roundg k2
                        case measure => have := HJ19.out; have := HK2.out; omega
                        case rel => exact ⟨((x4_2 ++ (⟨#[32, 99, 108, 117, 115, 116, 101, 114, 115, 32, 91]⟩ : ByteArray)) ++ t309), (wrap64 (x5_2 + 1)), (by first | rfl | (simp; done) | (simp [*]; done)), (by first | rfl | (simp; done) | (simp [*]; done)), H', ⟨by have := HJ19.out; have := HK2.out; omega⟩, ⟨by (with_reducible repeat (first | refine blk_drewN ?_ _ | refine blk_drew ?_ | refine blk_alloc ?_ _)); exact aa.out⟩, ⟨by repeat (first | (with_reducible first | exact HB.out | apply below_alloc | apply pw_below_drewN | apply below_drew1 | refine below_set ?_ ag.out) | exact HB.out)⟩⟩
                      ·rw [if_neg c44] at H
                       exact absurd H (by simp)
                     ·rw [if_neg c42] at H
                      exact absurd H (by simp)
                    ·rw [if_neg c41] at H
                     exact absurd H (by simp)
                   ·rw [if_neg c40] at H
                    have c40b0 : (x5_2 == 0) = false := beq_eq_false_iff_ne.mpr c40
                    have c40b1 : (x5_2 != 0) = true := bne_iff_ne.mpr c40
                    by_cases c53 : x4_2.size + 1 ≤ 9223372036854775807
                    ·rw [if_pos c53] at H
                     have c53b0 := eq_true c53
                     have c53b1 : decide (x4_2.size + 1 ≤ 9223372036854775807) = true := decide_eq_true c53
                     try have c53b2 : (9223372036854775807 < x4_2.size + 1) = False := eq_false (Nat.not_lt.2 c53)
                     by_cases c54 : 0 ≤ x5_2
                     ·rw [if_pos c54] at H
                      have c54b0 : decide (0 ≤ x5_2) = true := decide_eq_true c54
                      clear c54
                      replace H := Option.bind_eq_some_iff.mp H
                      obtain ⟨t311, A550, H⟩ := H
                      (try dsimp only at H)
                      have A55 := Aside0.mk A550
                      clear A550
                      by_cases c56 : (x4_2 ++ (⟨#[32]⟩ : ByteArray)).size + t311.size ≤ 9223372036854775807
                      ·rw [if_pos c56] at H
                       have c56b0 := eq_true c56
                       have c56b1 : decide ((x4_2 ++ (⟨#[32]⟩ : ByteArray)).size + t311.size ≤ 9223372036854775807) = true := decide_eq_true c56
                       try have c56b2 : (9223372036854775807 < (x4_2 ++ (⟨#[32]⟩ : ByteArray)).size + t311.size) = False := eq_false (Nat.not_lt.2 c56)
                       try have c56b3 : (9223372036854775807 < x4_2.size + 1 + t311.size) = False := eq_false (Nat.not_lt.2 (by have h_ := c56; simp only [ByteArray.size_append] at h_; exact h_))
                       by_cases c57 : x5_2 = (wrap64 ((ad.length : Int) - 1))
                       ·rw [if_pos c57] at H
                        have c57b0 : (x5_2 == (wrap64 ((ad.length : Int) - 1))) = true := beq_iff_eq.mpr c57
                        have c57b1 : (x5_2 != (wrap64 ((ad.length : Int) - 1))) = false := bne_eq_false_iff_eq.mpr c57
                        clear c57
                        by_cases c58 : ((x4_2 ++ (⟨#[32]⟩ : ByteArray)) ++ t311).size + 1 ≤ 9223372036854775807
                        ·rw [if_pos c58] at H
                         have c58b0 := eq_true c58
                         have c58b1 : decide (((x4_2 ++ (⟨#[32]⟩ : ByteArray)) ++ t311).size + 1 ≤ 9223372036854775807) = true := decide_eq_true c58
                         try have c58b2 : (9223372036854775807 < ((x4_2 ++ (⟨#[32]⟩ : ByteArray)) ++ t311).size + 1) = False := eq_false (Nat.not_lt.2 c58)
                         try have c58b3 : (9223372036854775807 < x4_2.size + 1 + t311.size + 1) = False := eq_false (Nat.not_lt.2 (by have h_ := c58; simp only [ByteArray.size_append] at h_; exact h_))
                         have H' := Aside0.mk H
                         clear H
                         have hcz59_0 : wr.cell? ⟨ab, 0, none⟩ = some (.int .i64 aj) := (blk_cell aa.out 0).trans rfl
                         have hcz59_1 : wr.cell? ⟨ab, 1, none⟩ = some (.int .i64 ak) := (blk_cell aa.out 1).trans rfl
                         have hcz59_2 : wr.cell? ⟨ab, 2, none⟩ = some (.int .i64 ac) := (blk_cell aa.out 2).trans rfl
                         have hcz59_3 : wr.cell? ⟨ab, 3, none⟩ = some (.slice am ah.length an) := (blk_cell aa.out 3).trans rfl
                         have hcz59_4 : wr.cell? ⟨ab, 4, none⟩ = some (.slice ao ai.length ap) := (blk_cell aa.out 4).trans rfl
                         have hcz59_5 : wr.cell? ⟨ab, 5, none⟩ = some (.int .i64 af) := (blk_cell aa.out 5).trans rfl
                         have hcz59_6 : wr.cell? ⟨ab, 6, none⟩ = some (.slice ar ad.length aq) := (blk_cell aa.out 6).trans rfl
                         have hfz59_0 := blk_frozen aa.out 0
                         have hfz59_1 := blk_frozen aa.out 1
                         have hfz59_2 := blk_frozen aa.out 2
                         have hfz59_3 := blk_frozen aa.out 3
                         have hfz59_4 := blk_frozen aa.out 4
                         have hfz59_5 := blk_frozen aa.out 5
                         have hfz59_6 := blk_frozen aa.out 6
                         have p310 : 0 ≤ (x5_2 : Int) := of_decide_eq_true (by first | (with_reducible assumption) | assumption)
                         have q310 : x5_2 < (ad.length : Int) := of_decide_eq_true (by first | (with_reducible assumption) | assumption)
                         obtain ⟨ad310, e310, hx310_0⟩ := Kd.at_int HR0_6.out x5_2 p310 q310
                         cases e310
                         replace hx310_0 := (HB.out.cell (World.block_lt_of_cell? w _ hx310_0)).trans hx310_0
                         replace p310 := eq_true p310
                         replace q310 := eq_true q310
                         go_wp2_with (first | ((with_reducible refine gate_callee (f := 47) rfl ?_); refine goesL_ (some 65) rfl rfl Try.func47 (by kernel_rfl) rfl #[.int .i64 (rd ad x5_2)] rfl (by (try simp only [List.map_toArray, List.map_cons, List.map_nil]); first | done | rfl) ?_; (with_reducible refine (whirligigref01_Number.calls k2 (rd ad x5_2) t311 _ A55.out).mono ?_); rintro e w60 ⟨rfl, hb⟩; refine ⟨_, rfl, ?_⟩; replace aa := Aside0.mk (blk_below (g := ab) (by (with_reducible repeat (first | refine blk_drewN ?_ _ | refine blk_drew ?_ | refine blk_alloc ?_ _)); exact aa.out) hb); replace HB := Aside0.mk (below_step (by repeat (first | (with_reducible first | exact HB.out | apply below_alloc | apply pw_below_drewN | apply below_drew1 | refine below_set ?_ ag.out) | exact HB.out)) hb); (try clear hb); (try clear au); (try clear hk); (try clear hi); have hcz61_0 : w60.cell? ⟨ab, 0, none⟩ = some (.int .i64 aj) := (blk_cell aa.out 0).trans rfl; have hcz61_1 : w60.cell? ⟨ab, 1, none⟩ = some (.int .i64 ak) := (blk_cell aa.out 1).trans rfl; have hcz61_2 : w60.cell? ⟨ab, 2, none⟩ = some (.int .i64 ac) := (blk_cell aa.out 2).trans rfl; have hcz61_3 : w60.cell? ⟨ab, 3, none⟩ = some (.slice am ah.length an) := (blk_cell aa.out 3).trans rfl; have hcz61_4 : w60.cell? ⟨ab, 4, none⟩ = some (.slice ao ai.length ap) := (blk_cell aa.out 4).trans rfl; have hcz61_5 : w60.cell? ⟨ab, 5, none⟩ = some (.int .i64 af) := (blk_cell aa.out 5).trans rfl; have hcz61_6 : w60.cell? ⟨ab, 6, none⟩ = some (.slice (some ad310) ad.length aq) := (blk_cell aa.out 6).trans rfl; have hfz61_0 := blk_frozen aa.out 0; have hfz61_1 := blk_frozen aa.out 1; have hfz61_2 := blk_frozen aa.out 2; have hfz61_3 := blk_frozen aa.out 3; have hfz61_4 := blk_frozen aa.out 4; have hfz61_5 := blk_frozen aa.out 5; have hfz61_6 := blk_frozen aa.out 6))
                         go_roundg k2
                         case measure => have := HJ19.out; have := HK2.out; omega
                         case rel => exact ⟨(((x4_2 ++ (⟨#[32]⟩ : ByteArray)) ++ t311) ++ (⟨#[93]⟩ : ByteArray)), (wrap64 (x5_2 + 1)), (by first | rfl | (simp; done) | (simp [*]; done)), (by first | rfl | (simp; done) | (simp [*]; done)), H', ⟨by have := HJ19.out; have := HK2.out; omega⟩, ⟨by (with_reducible repeat (first | refine blk_drewN ?_ _ | refine blk_drew ?_ | refine blk_alloc ?_ _)); exact aa.out⟩, ⟨by repeat (first | (with_reducible first | exact HB.out | apply below_alloc | apply pw_below_drewN | apply below_drew1 | refine below_set ?_ ag.out) | exact HB.out)⟩⟩
                        ·rw [if_neg c58] at H
                         exact absurd H (by simp)
                       ·rw [if_neg c57] at H
                        have c57b0 : (x5_2 == (wrap64 ((ad.length : Int) - 1))) = false := beq_eq_false_iff_ne.mpr c57
                        have c57b1 : (x5_2 != (wrap64 ((ad.length : Int) - 1))) = true := bne_iff_ne.mpr c57
                        have H' := Aside0.mk H
                        clear H
                        have hcz62_0 : wr.cell? ⟨ab, 0, none⟩ = some (.int .i64 aj) := (blk_cell aa.out 0).trans rfl
                        have hcz62_1 : wr.cell? ⟨ab, 1, none⟩ = some (.int .i64 ak) := (blk_cell aa.out 1).trans rfl
                        have hcz62_2 : wr.cell? ⟨ab, 2, none⟩ = some (.int .i64 ac) := (blk_cell aa.out 2).trans rfl
                        have hcz62_3 : wr.cell? ⟨ab, 3, none⟩ = some (.slice am ah.length an) := (blk_cell aa.out 3).trans rfl
                        have hcz62_4 : wr.cell? ⟨ab, 4, none⟩ = some (.slice ao ai.length ap) := (blk_cell aa.out 4).trans rfl
                        have hcz62_5 : wr.cell? ⟨ab, 5, none⟩ = some (.int .i64 af) := (blk_cell aa.out 5).trans rfl
                        have hcz62_6 : wr.cell? ⟨ab, 6, none⟩ = some (.slice ar ad.length aq) := (blk_cell aa.out 6).trans rfl
                        have hfz62_0 := blk_frozen aa.out 0
                        have hfz62_1 := blk_frozen aa.out 1
                        have hfz62_2 := blk_frozen aa.out 2
                        have hfz62_3 := blk_frozen aa.out 3
                        have hfz62_4 := blk_frozen aa.out 4
                        have hfz62_5 := blk_frozen aa.out 5
                        have hfz62_6 := blk_frozen aa.out 6
                        have p310 : 0 ≤ (x5_2 : Int) := of_decide_eq_true (by first | (with_reducible assumption) | assumption)
                        have q310 : x5_2 < (ad.length : Int) := of_decide_eq_true (by first | (with_reducible assumption) | assumption)
                        obtain ⟨ad310, e310, hx310_0⟩ := Kd.at_int HR0_6.out x5_2 p310 q310
                        cases e310
                        replace hx310_0 := (HB.out.cell (World.block_lt_of_cell? w _ hx310_0)).trans hx310_0
                        replace p310 := eq_true p310
                        replace q310 := eq_true q310
                        go_wp2_with (first | ((with_reducible refine gate_callee (f := 47) rfl ?_); refine goesL_ (some 65) rfl rfl Try.func47 (by kernel_rfl) rfl #[.int .i64 (rd ad x5_2)] rfl (by (try simp only [List.map_toArray, List.map_cons, List.map_nil]); first | done | rfl) ?_; (with_reducible refine (whirligigref01_Number.calls k2 (rd ad x5_2) t311 _ A55.out).mono ?_); rintro e w63 ⟨rfl, hb⟩; refine ⟨_, rfl, ?_⟩; replace aa := Aside0.mk (blk_below (g := ab) (by (with_reducible repeat (first | refine blk_drewN ?_ _ | refine blk_drew ?_ | refine blk_alloc ?_ _)); exact aa.out) hb); replace HB := Aside0.mk (below_step (by repeat (first | (with_reducible first | exact HB.out | apply below_alloc | apply pw_below_drewN | apply below_drew1 | refine below_set ?_ ag.out) | exact HB.out)) hb); (try clear hb); (try clear au); (try clear hk); (try clear hi); have hcz64_0 : w63.cell? ⟨ab, 0, none⟩ = some (.int .i64 aj) := (blk_cell aa.out 0).trans rfl; have hcz64_1 : w63.cell? ⟨ab, 1, none⟩ = some (.int .i64 ak) := (blk_cell aa.out 1).trans rfl; have hcz64_2 : w63.cell? ⟨ab, 2, none⟩ = some (.int .i64 ac) := (blk_cell aa.out 2).trans rfl; have hcz64_3 : w63.cell? ⟨ab, 3, none⟩ = some (.slice am ah.length an) := (blk_cell aa.out 3).trans rfl; have hcz64_4 : w63.cell? ⟨ab, 4, none⟩ = some (.slice ao ai.length ap) := (blk_cell aa.out 4).trans rfl; have hcz64_5 : w63.cell? ⟨ab, 5, none⟩ = some (.int .i64 af) := (blk_cell aa.out 5).trans rfl; have hcz64_6 : w63.cell? ⟨ab, 6, none⟩ = some (.slice (some ad310) ad.length aq) := (blk_cell aa.out 6).trans rfl; have hfz64_0 := blk_frozen aa.out 0; have hfz64_1 := blk_frozen aa.out 1; have hfz64_2 := blk_frozen aa.out 2; have hfz64_3 := blk_frozen aa.out 3; have hfz64_4 := blk_frozen aa.out 4; have hfz64_5 := blk_frozen aa.out 5; have hfz64_6 := blk_frozen aa.out 6))
                        go_roundg k2
                        case measure => have := HJ19.out; have := HK2.out; omega
                        case rel => exact ⟨((x4_2 ++ (⟨#[32]⟩ : ByteArray)) ++ t311), (wrap64 (x5_2 + 1)), (by first | rfl | (simp; done) | (simp [*]; done)), (by first | rfl | (simp; done) | (simp [*]; done)), H', ⟨by have := HJ19.out; have := HK2.out; omega⟩, ⟨by (with_reducible repeat (first | refine blk_drewN ?_ _ | refine blk_drew ?_ | refine blk_alloc ?_ _)); exact aa.out⟩, ⟨by repeat (first | (with_reducible first | exact HB.out | apply below_alloc | apply pw_below_drewN | apply below_drew1 | refine below_set ?_ ag.out) | exact HB.out)⟩⟩
                      ·rw [if_neg c56] at H
                       exact absurd H (by simp)
                     ·rw [if_neg c54] at H
                      exact absurd H (by simp)
                    ·rw [if_neg c53] at H
                     exact absurd H (by simp)
                  ·rw [if_neg c39] at H
                   have c39b0 : decide (x5_2 < (ad.length : Int)) = false := decide_eq_false c39
                   clear c39
                   obtain rfl := Option.some.inj H
                   have hcz65_0 : wr.cell? ⟨ab, 0, none⟩ = some (.int .i64 aj) := (blk_cell aa.out 0).trans rfl
                   have hcz65_1 : wr.cell? ⟨ab, 1, none⟩ = some (.int .i64 ak) := (blk_cell aa.out 1).trans rfl
                   have hcz65_2 : wr.cell? ⟨ab, 2, none⟩ = some (.int .i64 ac) := (blk_cell aa.out 2).trans rfl
                   have hcz65_3 : wr.cell? ⟨ab, 3, none⟩ = some (.slice am ah.length an) := (blk_cell aa.out 3).trans rfl
                   have hcz65_4 : wr.cell? ⟨ab, 4, none⟩ = some (.slice ao ai.length ap) := (blk_cell aa.out 4).trans rfl
                   have hcz65_5 : wr.cell? ⟨ab, 5, none⟩ = some (.int .i64 af) := (blk_cell aa.out 5).trans rfl
                   have hcz65_6 : wr.cell? ⟨ab, 6, none⟩ = some (.slice ar ad.length aq) := (blk_cell aa.out 6).trans rfl
                   have hfz65_0 := blk_frozen aa.out 0
                   have hfz65_1 := blk_frozen aa.out 1
                   have hfz65_2 := blk_frozen aa.out 2
                   have hfz65_3 := blk_frozen aa.out 3
                   have hfz65_4 := blk_frozen aa.out 4
                   have hfz65_5 := blk_frozen aa.out 5
                   have hfz65_6 := blk_frozen aa.out 6
                   go_wp2
                   go_ret
                   exact ⟨by first | rfl | (simp [errW_none, errW_some] <;> rfl) | (simp [*, errW_none, errW_some] <;> rfl), by repeat (first | (with_reducible first | exact HB.out | apply below_alloc | apply pw_below_drewN | apply below_drew1 | refine below_set ?_ ag.out) | exact HB.out)⟩
             ·rw [if_neg a8] at H
              exact absurd H (by simp)
            ·rw [if_neg a7] at H
             exact absurd H (by simp)
           ·rw [if_neg az] at H
            exact absurd H (by simp)
          ·rw [if_neg ay] at H
           exact absurd H (by simp)
         ·rw [if_neg ax] at H
          exact absurd H (by simp)
        ·rw [if_neg aw] at H
         exact absurd H (by simp)
       ·rw [if_neg c11] at H
        exact absurd H (by simp)
      ·rw [if_neg c10] at H
       exact absurd H (by simp)
     ·rw [if_neg c9] at H
      exact absurd H (by simp)
    ·rw [if_neg c8] at H
     exact absurd H (by simp)
   ·rw [if_neg c6] at H
    exact absurd H (by simp)
  ·rw [if_neg c5] at H
   exact absurd H (by simp)
 ·replace c3 := Bool.eq_false_iff.mpr c3
  subst c3
  have H1 : (some (⟨#[]⟩ : ByteArray)) = some r := by rw [if_neg (show ¬ (false = true) by decide)] at H; exact H
  clear H
  have H := H1
  clear H1
  obtain rfl := Option.some.inj H
  go_enter Try.func17, Try.ntmps17
  go_wp2_with (first | ((with_reducible refine gate_dst (N := 1) rfl ?_); refine box_event ?hg (N := 1) ?hd (cs := #[.int .i64 aj, .int .i64 ak, .int .i64 ac, .slice am ah.length an, .slice ao ai.length ap, .int .i64 af, .slice ar ad.length aq]) (t := 30) ?hr ?_; (case hd => rfl); (case hg => rfl); (case hr => first | (go_simp; done) | (go_simp; rfl)); intro ab hg w66 hbox hb; have n0_ := Aside0.mk (below_step (by repeat (first | (with_reducible first | exact HB.out | apply below_alloc | apply pw_below_drewN | apply below_drew1) | exact HB.out)) hb); have n1_ := Aside0.mk (hbox); have n2_ := Aside0.mk ((by rw [hg]; exact (below_size (by repeat (first | (with_reducible first | exact HB.out | apply below_alloc | apply pw_below_drewN | apply below_drew1) | exact HB.out))) : w.heap.size ≤ ab)); have n3_ := Aside0.mk ((by rw [hg]; exact (below_size (by repeat (first | (with_reducible first | exact HB.out | apply below_alloc | apply pw_below_drewN | apply below_drew1) | exact HB.out))) : w.heap.size ≤ ab)); clear HB; have HB := n0_; have aa := n1_; have GW297 := n2_; have ag := n3_; clear n0_ n1_ n2_ n3_; clear hb hbox hg; have hcz67_0 : w66.cell? ⟨ab, 0, none⟩ = some (.int .i64 aj) := (blk_cell aa.out 0).trans rfl; have hcz67_1 : w66.cell? ⟨ab, 1, none⟩ = some (.int .i64 ak) := (blk_cell aa.out 1).trans rfl; have hcz67_2 : w66.cell? ⟨ab, 2, none⟩ = some (.int .i64 ac) := (blk_cell aa.out 2).trans rfl; have hcz67_3 : w66.cell? ⟨ab, 3, none⟩ = some (.slice am ah.length an) := (blk_cell aa.out 3).trans rfl; have hcz67_4 : w66.cell? ⟨ab, 4, none⟩ = some (.slice ao ai.length ap) := (blk_cell aa.out 4).trans rfl; have hcz67_5 : w66.cell? ⟨ab, 5, none⟩ = some (.int .i64 af) := (blk_cell aa.out 5).trans rfl; have hcz67_6 : w66.cell? ⟨ab, 6, none⟩ = some (.slice ar ad.length aq) := (blk_cell aa.out 6).trans rfl; have hfz67_0 := blk_frozen aa.out 0; have hfz67_1 := blk_frozen aa.out 1; have hfz67_2 := blk_frozen aa.out 2; have hfz67_3 := blk_frozen aa.out 3; have hfz67_4 := blk_frozen aa.out 4; have hfz67_5 := blk_frozen aa.out 5; have hfz67_6 := blk_frozen aa.out 6) | ((with_reducible refine gate_callee (f := 16) rfl ?_); refine goesL_ (some 7) rfl rfl Try.func16 (by kernel_rfl) rfl #[.agg #[.int .i64 aj, .int .i64 ak, .int .i64 ac, .slice am ah.length an, .slice ao ai.length ap, .int .i64 af, .slice ar ad.length aq]] rfl (by (try simp only [List.map_toArray, List.map_cons, List.map_nil]); first | done | rfl) ?_; (with_reducible refine (whirligigref09_May.calls k aj ak ac _ _ ah _ _ ai af _ _ ad false _ ?side1 ?side2 ?side3 ?side4 ?side5 ?side6 A2.out).mono ?_); (case side1 | side3 | side5 => repeat (first | exact (Kd.C_below HR0_3.out HB.out) | exact (Kd.C_below HR0_4.out HB.out) | exact (Kd.C_below HR0_6.out HB.out) | (with_reducible refine Kd.C_alloc ?_ _) | (with_reducible refine Kd.C_drewN ?_ _) | (with_reducible refine Kd.C_drew ?_))); (case side2 | side4 | side6 => first | exact HC0_3.out | exact HC0_4.out | exact HC0_6.out); rintro e w68 ⟨rfl, hb⟩; refine ⟨_, rfl, ?_⟩; replace aa := Aside0.mk (blk_below (g := ab) (by (with_reducible repeat (first | refine blk_drewN ?_ _ | refine blk_drew ?_ | refine blk_alloc ?_ _)); exact aa.out) hb); replace HB := Aside0.mk (below_step (by repeat (first | (with_reducible first | exact HB.out | apply below_alloc | apply pw_below_drewN | apply below_drew1 | refine below_set ?_ ag.out) | exact HB.out)) hb); (try clear hb); (try clear au); (try clear hk); (try clear hi)))
  go_ret
  exact ⟨by first | rfl | (simp [errW_none, errW_some] <;> rfl) | (simp [*, errW_none, errW_some] <;> rfl), by repeat (first | (with_reducible first | exact HB.out | apply below_alloc | apply pw_below_drewN | apply below_drew1 | refine below_set ?_ ag.out) | exact HB.out)⟩

/-! ### attr_Same: function 18 -/
def attr_Same.f (k : Nat) (a0_0 : Int) (a0_1 : Int) (a0_2 : Int) (l0_3 : List Int) (l0_4 : List (S63)) (a0_5 : Int) (l0_6 : List Int) (a1_0 : Int) (a1_1 : Int) (a1_2 : Int) (l1_3 : List Int) (l1_4 : List (S63)) (a1_5 : Int) (l1_6 : List Int) : Option (Bool) := (attr_Compare.f k a0_0 a0_1 a0_2 l0_3 l0_4 a0_5 l0_6 a1_0 a1_1 a1_2 l1_3 l1_4 a1_5 l1_6).bind fun t314 => (some (t314 == 0))
theorem attr_Same.mono : ∀ a0 a1 a2 a3 a4 a5 a6 a7 a8 a9 a10 a11 a12 a13 k, LeO (attr_Same.f k a0 a1 a2 a3 a4 a5 a6 a7 a8 a9 a10 a11 a12 a13) (attr_Same.f (k + 1) a0 a1 a2 a3 a4 a5 a6 a7 a8 a9 a10 a11 a12 a13) := by
  intro a0 a1 a2 a3 a4 a5 a6 a7 a8 a9 a10 a11 a12 a13 k
  unfold attr_Same.f
  repeat' first
      | (with_reducible exact attr_Compare.mono _ _ _ _ _ _ _ _ _ _ _ _ _ _ _)
      | (with_reducible exact LeO.refl _)
      | (with_reducible exact LeO.none _)
      | (with_reducible refine LeO.ite ?_ ?_)
      | (with_reducible refine LeO.bind ?_ (fun _ => ?_))
      | exact attr_Compare.mono _ _ _ _ _ _ _ _ _ _ _ _ _ _ _
      | exact LeO.none _
      | refine LeO.ite ?_ ?_
      | refine LeO.bind ?_ (fun _ => ?_)
set_option maxHeartbeats 8000000 in
set_option maxRecDepth 100000 in
theorem attr_Same.calls (k : Nat) (a0_0 : Int) (a0_1 : Int) (a0_2 : Int) (A0_3 : Option Addr) (c0_3 : Nat) (l0_3 : List Int) (A0_4 : Option Addr) (c0_4 : Nat) (l0_4 : List (S63)) (a0_5 : Int) (A0_6 : Option Addr) (c0_6 : Nat) (l0_6 : List Int) (a1_0 : Int) (a1_1 : Int) (a1_2 : Int) (A1_3 : Option Addr) (c1_3 : Nat) (l1_3 : List Int) (A1_4 : Option Addr) (c1_4 : Nat) (l1_4 : List (S63)) (a1_5 : Int) (A1_6 : Option Addr) (c1_6 : Nat) (l1_6 : List Int) (r : Bool) (w : World) (hr0_3 : Kd.C (Kd.int .i64) w A0_3 l0_3.length l0_3) (hc0_3 : l0_3.length ≤ c0_3) (hr0_4 : Kd.C k63 w A0_4 l0_4.length l0_4) (hc0_4 : l0_4.length ≤ c0_4) (hr0_6 : Kd.C (Kd.int .i64) w A0_6 l0_6.length l0_6) (hc0_6 : l0_6.length ≤ c0_6) (hr1_3 : Kd.C (Kd.int .i64) w A1_3 l1_3.length l1_3) (hc1_3 : l1_3.length ≤ c1_3) (hr1_4 : Kd.C k63 w A1_4 l1_4.length l1_4) (hc1_4 : l1_4.length ≤ c1_4) (hr1_6 : Kd.C (Kd.int .i64) w A1_6 l1_6.length l1_6) (hc1_6 : l1_6.length ≤ c1_6) (h : attr_Same.f k a0_0 a0_1 a0_2 l0_3 l0_4 a0_5 l0_6 a1_0 a1_1 a1_2 l1_3 l1_4 a1_5 l1_6 = some r) :
    Calls Try.prog 18 #[.agg #[.int .i64 a0_0, .int .i64 a0_1, .int .i64 a0_2, .slice A0_3 l0_3.length c0_3, .slice A0_4 l0_4.length c0_4, .int .i64 a0_5, .slice A0_6 l0_6.length c0_6], .agg #[.int .i64 a1_0, .int .i64 a1_1, .int .i64 a1_2, .slice A1_3 l1_3.length c1_3, .slice A1_4 l1_4.length c1_4, .int .i64 a1_5, .slice A1_6 l1_6.length c1_6]] w fun e w' => e = .returned (.bool r) ∧ Below w.heap.size w w' := by
  have hu30 := Try.underlying30
  have HR0_3 := Aside0.mk hr0_3
  have HC0_3 := Aside0.mk hc0_3
  clear hr0_3 hc0_3
  have HR0_4 := Aside0.mk hr0_4
  have HC0_4 := Aside0.mk hc0_4
  clear hr0_4 hc0_4
  have HR0_6 := Aside0.mk hr0_6
  have HC0_6 := Aside0.mk hc0_6
  clear hr0_6 hc0_6
  have HR1_3 := Aside0.mk hr1_3
  have HC1_3 := Aside0.mk hc1_3
  clear hr1_3 hc1_3
  have HR1_4 := Aside0.mk hr1_4
  have HC1_4 := Aside0.mk hc1_4
  clear hr1_4 hc1_4
  have HR1_6 := Aside0.mk hr1_6
  have HC1_6 := Aside0.mk hc1_6
  clear hr1_6 hc1_6
  have HB := Aside0.mk (Below.refl w.heap.size w)
  have H : ((attr_Compare.f k a0_0 a0_1 a0_2 l0_3 l0_4 a0_5 l0_6 a1_0 a1_1 a1_2 l1_3 l1_4 a1_5 l1_6).bind fun t314 => (some (t314 == 0))) = some r := h
  clear h
  replace H := Option.bind_eq_some_iff.mp H
  obtain ⟨t314, A30, H⟩ := H
  replace H : (some (t314 == 0)) = some r := H
  have A3 := Aside0.mk A30
  clear A30
  obtain rfl := Option.some.inj H
  go_enter Try.func18, Try.ntmps18
  go_wp2_with (first | ((with_reducible refine gate_dst (N := 2) rfl ?_); refine box_event ?hg (N := 2) ?hd (cs := #[.int .i64 a0_0, .int .i64 a0_1, .int .i64 a0_2, .slice A0_3 l0_3.length c0_3, .slice A0_4 l0_4.length c0_4, .int .i64 a0_5, .slice A0_6 l0_6.length c0_6]) (t := 30) ?hr ?_; (case hd => rfl); (case hg => rfl); (case hr => first | (go_simp; done) | (go_simp; rfl)); intro gb312 hg w4 hbox hb; have n0_ := Aside0.mk (below_step (by repeat (first | (with_reducible first | exact HB.out | apply below_alloc | apply pw_below_drewN | apply below_drew1) | exact HB.out)) hb); have n1_ := Aside0.mk (hbox); have n2_ := Aside0.mk ((by rw [hg]; exact (below_size (by repeat (first | (with_reducible first | exact HB.out | apply below_alloc | apply pw_below_drewN | apply below_drew1) | exact HB.out))) : w.heap.size ≤ gb312)); have n3_ := Aside0.mk ((by rw [hg]; exact (below_size (by repeat (first | (with_reducible first | exact HB.out | apply below_alloc | apply pw_below_drewN | apply below_drew1) | exact HB.out))) : w.heap.size ≤ gb312)); clear HB; have HB := n0_; have BK312 := n1_; have GW312 := n2_; have GE312 := n3_; clear n0_ n1_ n2_ n3_; clear hb hbox hg) | ((with_reducible refine gate_dst (N := 3) rfl ?_); refine box_event ?hg (N := 3) ?hd (cs := #[.int .i64 a1_0, .int .i64 a1_1, .int .i64 a1_2, .slice A1_3 l1_3.length c1_3, .slice A1_4 l1_4.length c1_4, .int .i64 a1_5, .slice A1_6 l1_6.length c1_6]) (t := 30) ?hr ?_; (case hd => rfl); (case hg => rfl); (case hr => first | (go_simp; done) | (go_simp; rfl)); intro gb313 hg w5 hbox hb; have n0_ := Aside0.mk (blk_below (g := gb312) (o := .cells #[.int .i64 a0_0, .int .i64 a0_1, .int .i64 a0_2, .slice A0_3 l0_3.length c0_3, .slice A0_4 l0_4.length c0_4, .int .i64 a0_5, .slice A0_6 l0_6.length c0_6] 30 (0, 0)) (by (with_reducible repeat (first | refine blk_drewN ?_ _ | refine blk_drew ?_ | refine blk_alloc ?_ _)); exact BK312.out) hb); have n1_ := Aside0.mk (below_step (by repeat (first | (with_reducible first | exact HB.out | apply below_alloc | apply pw_below_drewN | apply below_drew1 | refine below_set ?_ GE312.out) | exact HB.out)) hb); have n2_ := Aside0.mk (hbox); have n3_ := Aside0.mk ((by rw [hg]; exact (below_size (by repeat (first | (with_reducible first | exact HB.out | apply below_alloc | apply pw_below_drewN | apply below_drew1 | refine below_set ?_ GE312.out) | exact HB.out))) : w.heap.size ≤ gb313)); have n4_ := Aside0.mk ((by rw [hg]; exact (below_size (by repeat (first | (with_reducible first | exact HB.out | apply below_alloc | apply pw_below_drewN | apply below_drew1 | refine below_set ?_ GE312.out) | exact HB.out))) : w.heap.size ≤ gb313)); have n5_ := Aside0.mk ((by rw [hg]; exact Nat.ne_of_lt (blk_lt (g := gb312) (o := .cells #[.int .i64 a0_0, .int .i64 a0_1, .int .i64 a0_2, .slice A0_3 l0_3.length c0_3, .slice A0_4 l0_4.length c0_4, .int .i64 a0_5, .slice A0_6 l0_6.length c0_6] 30 (0, 0)) (by (with_reducible repeat (first | refine blk_drewN ?_ _ | refine blk_drew ?_ | refine blk_alloc ?_ _)); exact BK312.out)) : gb312 ≠ gb313)); have n6_ := Aside0.mk ((by rw [hg]; exact Nat.ne_of_gt (blk_lt (g := gb312) (o := .cells #[.int .i64 a0_0, .int .i64 a0_1, .int .i64 a0_2, .slice A0_3 l0_3.length c0_3, .slice A0_4 l0_4.length c0_4, .int .i64 a0_5, .slice A0_6 l0_6.length c0_6] 30 (0, 0)) (by (with_reducible repeat (first | refine blk_drewN ?_ _ | refine blk_drew ?_ | refine blk_alloc ?_ _)); exact BK312.out)) : gb313 ≠ gb312)); clear BK312; clear HB; have BK312 := n0_; have HB := n1_; have BK313 := n2_; have GW313 := n3_; have GE313 := n4_; have NB312_313 := n5_; have NB313_312 := n6_; clear n0_ n1_ n2_ n3_ n4_ n5_ n6_; clear hb hbox hg; have hnb6 := NB312_313.out; have hnc6 := NB313_312.out; have hcz7_0 : w5.cell? ⟨gb312, 0, none⟩ = some (.int .i64 a0_0) := (blk_cell BK312.out 0).trans rfl; have hcz7_1 : w5.cell? ⟨gb312, 1, none⟩ = some (.int .i64 a0_1) := (blk_cell BK312.out 1).trans rfl; have hcz7_2 : w5.cell? ⟨gb312, 2, none⟩ = some (.int .i64 a0_2) := (blk_cell BK312.out 2).trans rfl; have hcz7_3 : w5.cell? ⟨gb312, 3, none⟩ = some (.slice A0_3 l0_3.length c0_3) := (blk_cell BK312.out 3).trans rfl; have hcz7_4 : w5.cell? ⟨gb312, 4, none⟩ = some (.slice A0_4 l0_4.length c0_4) := (blk_cell BK312.out 4).trans rfl; have hcz7_5 : w5.cell? ⟨gb312, 5, none⟩ = some (.int .i64 a0_5) := (blk_cell BK312.out 5).trans rfl; have hcz7_6 : w5.cell? ⟨gb312, 6, none⟩ = some (.slice A0_6 l0_6.length c0_6) := (blk_cell BK312.out 6).trans rfl; have hfz7_0 := blk_frozen BK312.out 0; have hfz7_1 := blk_frozen BK312.out 1; have hfz7_2 := blk_frozen BK312.out 2; have hfz7_3 := blk_frozen BK312.out 3; have hfz7_4 := blk_frozen BK312.out 4; have hfz7_5 := blk_frozen BK312.out 5; have hfz7_6 := blk_frozen BK312.out 6; have hcz8_0 : w5.cell? ⟨gb313, 0, none⟩ = some (.int .i64 a1_0) := (blk_cell BK313.out 0).trans rfl; have hcz8_1 : w5.cell? ⟨gb313, 1, none⟩ = some (.int .i64 a1_1) := (blk_cell BK313.out 1).trans rfl; have hcz8_2 : w5.cell? ⟨gb313, 2, none⟩ = some (.int .i64 a1_2) := (blk_cell BK313.out 2).trans rfl; have hcz8_3 : w5.cell? ⟨gb313, 3, none⟩ = some (.slice A1_3 l1_3.length c1_3) := (blk_cell BK313.out 3).trans rfl; have hcz8_4 : w5.cell? ⟨gb313, 4, none⟩ = some (.slice A1_4 l1_4.length c1_4) := (blk_cell BK313.out 4).trans rfl; have hcz8_5 : w5.cell? ⟨gb313, 5, none⟩ = some (.int .i64 a1_5) := (blk_cell BK313.out 5).trans rfl; have hcz8_6 : w5.cell? ⟨gb313, 6, none⟩ = some (.slice A1_6 l1_6.length c1_6) := (blk_cell BK313.out 6).trans rfl; have hfz8_0 := blk_frozen BK313.out 0; have hfz8_1 := blk_frozen BK313.out 1; have hfz8_2 := blk_frozen BK313.out 2; have hfz8_3 := blk_frozen BK313.out 3; have hfz8_4 := blk_frozen BK313.out 4; have hfz8_5 := blk_frozen BK313.out 5; have hfz8_6 := blk_frozen BK313.out 6) | ((with_reducible refine gate_callee (f := 12) rfl ?_); refine goesL_ (some 7) rfl rfl Try.func12 (by kernel_rfl) rfl #[.agg #[.int .i64 a0_0, .int .i64 a0_1, .int .i64 a0_2, .slice A0_3 l0_3.length c0_3, .slice A0_4 l0_4.length c0_4, .int .i64 a0_5, .slice A0_6 l0_6.length c0_6], .agg #[.int .i64 a1_0, .int .i64 a1_1, .int .i64 a1_2, .slice A1_3 l1_3.length c1_3, .slice A1_4 l1_4.length c1_4, .int .i64 a1_5, .slice A1_6 l1_6.length c1_6]] rfl (by (try simp only [List.map_toArray, List.map_cons, List.map_nil]); first | done | rfl | (simp only [List.length_drop, List.length_take]; rfl)) ?_; (with_reducible refine (attr_Compare.calls k a0_0 a0_1 a0_2 _ _ l0_3 _ _ l0_4 a0_5 _ _ l0_6 a1_0 a1_1 a1_2 _ _ l1_3 _ _ l1_4 a1_5 _ _ l1_6 t314 _ ?side1 ?side2 ?side3 ?side4 ?side5 ?side6 ?side7 ?side8 ?side9 ?side10 ?side11 ?side12 A3.out).mono ?_); (case side1 => repeat (first | exact (Kd.C_below HR0_3.out HB.out) | (with_reducible refine Kd.C_alloc ?_ _) | (with_reducible refine Kd.C_drewN ?_ _) | (with_reducible refine Kd.C_drew ?_))); (case side2 => exact HC0_3.out); (case side3 => repeat (first | exact (Kd.C_below HR0_4.out HB.out) | (with_reducible refine Kd.C_alloc ?_ _) | (with_reducible refine Kd.C_drewN ?_ _) | (with_reducible refine Kd.C_drew ?_))); (case side4 => exact HC0_4.out); (case side5 => repeat (first | exact (Kd.C_below HR0_6.out HB.out) | (with_reducible refine Kd.C_alloc ?_ _) | (with_reducible refine Kd.C_drewN ?_ _) | (with_reducible refine Kd.C_drew ?_))); (case side6 => exact HC0_6.out); (case side7 => repeat (first | exact (Kd.C_below HR1_3.out HB.out) | (with_reducible refine Kd.C_alloc ?_ _) | (with_reducible refine Kd.C_drewN ?_ _) | (with_reducible refine Kd.C_drew ?_))); (case side8 => exact HC1_3.out); (case side9 => repeat (first | exact (Kd.C_below HR1_4.out HB.out) | (with_reducible refine Kd.C_alloc ?_ _) | (with_reducible refine Kd.C_drewN ?_ _) | (with_reducible refine Kd.C_drew ?_))); (case side10 => exact HC1_4.out); (case side11 => repeat (first | exact (Kd.C_below HR1_6.out HB.out) | (with_reducible refine Kd.C_alloc ?_ _) | (with_reducible refine Kd.C_drewN ?_ _) | (with_reducible refine Kd.C_drew ?_))); (case side12 => exact HC1_6.out); rintro e w9 ⟨rfl, hb⟩; refine ⟨_, rfl, ?_⟩; have n0_ := Aside0.mk (blk_below (g := gb312) (o := .cells #[.int .i64 a0_0, .int .i64 a0_1, .int .i64 a0_2, .slice A0_3 l0_3.length c0_3, .slice A0_4 l0_4.length c0_4, .int .i64 a0_5, .slice A0_6 l0_6.length c0_6] 30 (0, 0)) (by (with_reducible repeat (first | refine blk_drewN ?_ _ | refine blk_drew ?_ | refine blk_alloc ?_ _)); exact BK312.out) hb); have n1_ := Aside0.mk (blk_below (g := gb313) (o := .cells #[.int .i64 a1_0, .int .i64 a1_1, .int .i64 a1_2, .slice A1_3 l1_3.length c1_3, .slice A1_4 l1_4.length c1_4, .int .i64 a1_5, .slice A1_6 l1_6.length c1_6] 30 (0, 0)) (by (with_reducible repeat (first | refine blk_drewN ?_ _ | refine blk_drew ?_ | refine blk_alloc ?_ _)); exact BK313.out) hb); have n2_ := Aside0.mk (below_step (by repeat (first | (with_reducible first | exact HB.out | apply below_alloc | apply pw_below_drewN | apply below_drew1 | refine below_set ?_ GE312.out | refine below_set ?_ GE313.out) | exact HB.out)) hb); clear BK312; clear BK313; clear HB; have BK312 := n0_; have BK313 := n1_; have HB := n2_; clear n0_ n1_ n2_; (try clear hb); (try clear hb2); (try clear hk); (try clear hi)))
  go_ret
  exact ⟨by first | rfl | (simp [errW_none, errW_some] <;> rfl) | (simp [*, errW_none, errW_some] <;> rfl), by repeat (first | (with_reducible first | exact HB.out | apply below_alloc | apply pw_below_drewN | apply below_drew1 | refine below_set ?_ GE312.out | refine below_set ?_ GE313.out) | exact HB.out)⟩

/-! ### whirligigref09_Same: function 19 -/
def whirligigref09_Same.f (k : Nat) (a0_0 : Int) (a0_1 : Int) (a0_2 : Int) (l0_3 : List Int) (l0_4 : List (S63)) (a0_5 : Int) (l0_6 : List Int) (a1_0 : Int) (a1_1 : Int) (a1_2 : Int) (l1_3 : List Int) (l1_4 : List (S63)) (a1_5 : Int) (l1_6 : List Int) : Option (Bool) := (whirligigref09_Compare.f k a0_0 a0_1 a0_2 l0_3 l0_4 a0_5 l0_6 a1_0 a1_1 a1_2 l1_3 l1_4 a1_5 l1_6).bind fun t317 => (some (t317 == 0))
theorem whirligigref09_Same.mono : ∀ a0 a1 a2 a3 a4 a5 a6 a7 a8 a9 a10 a11 a12 a13 k, LeO (whirligigref09_Same.f k a0 a1 a2 a3 a4 a5 a6 a7 a8 a9 a10 a11 a12 a13) (whirligigref09_Same.f (k + 1) a0 a1 a2 a3 a4 a5 a6 a7 a8 a9 a10 a11 a12 a13) := by
  intro a0 a1 a2 a3 a4 a5 a6 a7 a8 a9 a10 a11 a12 a13 k
  unfold whirligigref09_Same.f
  repeat' first
      | (with_reducible exact whirligigref09_Compare.mono _ _ _ _ _ _ _ _ _ _ _ _ _ _ _)
      | (with_reducible exact LeO.refl _)
      | (with_reducible exact LeO.none _)
      | (with_reducible refine LeO.ite ?_ ?_)
      | (with_reducible refine LeO.bind ?_ (fun _ => ?_))
      | exact whirligigref09_Compare.mono _ _ _ _ _ _ _ _ _ _ _ _ _ _ _
      | exact LeO.none _
      | refine LeO.ite ?_ ?_
      | refine LeO.bind ?_ (fun _ => ?_)
set_option maxHeartbeats 8000000 in
set_option maxRecDepth 100000 in
theorem whirligigref09_Same.calls (k : Nat) (a0_0 : Int) (a0_1 : Int) (a0_2 : Int) (A0_3 : Option Addr) (c0_3 : Nat) (l0_3 : List Int) (A0_4 : Option Addr) (c0_4 : Nat) (l0_4 : List (S63)) (a0_5 : Int) (A0_6 : Option Addr) (c0_6 : Nat) (l0_6 : List Int) (a1_0 : Int) (a1_1 : Int) (a1_2 : Int) (A1_3 : Option Addr) (c1_3 : Nat) (l1_3 : List Int) (A1_4 : Option Addr) (c1_4 : Nat) (l1_4 : List (S63)) (a1_5 : Int) (A1_6 : Option Addr) (c1_6 : Nat) (l1_6 : List Int) (r : Bool) (w : World) (hr0_3 : Kd.C (Kd.int .i64) w A0_3 l0_3.length l0_3) (hc0_3 : l0_3.length ≤ c0_3) (hr0_4 : Kd.C k63 w A0_4 l0_4.length l0_4) (hc0_4 : l0_4.length ≤ c0_4) (hr0_6 : Kd.C (Kd.int .i64) w A0_6 l0_6.length l0_6) (hc0_6 : l0_6.length ≤ c0_6) (hr1_3 : Kd.C (Kd.int .i64) w A1_3 l1_3.length l1_3) (hc1_3 : l1_3.length ≤ c1_3) (hr1_4 : Kd.C k63 w A1_4 l1_4.length l1_4) (hc1_4 : l1_4.length ≤ c1_4) (hr1_6 : Kd.C (Kd.int .i64) w A1_6 l1_6.length l1_6) (hc1_6 : l1_6.length ≤ c1_6) (h : whirligigref09_Same.f k a0_0 a0_1 a0_2 l0_3 l0_4 a0_5 l0_6 a1_0 a1_1 a1_2 l1_3 l1_4 a1_5 l1_6 = some r) :
    Calls Try.prog 19 #[.agg #[.int .i64 a0_0, .int .i64 a0_1, .int .i64 a0_2, .slice A0_3 l0_3.length c0_3, .slice A0_4 l0_4.length c0_4, .int .i64 a0_5, .slice A0_6 l0_6.length c0_6], .agg #[.int .i64 a1_0, .int .i64 a1_1, .int .i64 a1_2, .slice A1_3 l1_3.length c1_3, .slice A1_4 l1_4.length c1_4, .int .i64 a1_5, .slice A1_6 l1_6.length c1_6]] w fun e w' => e = .returned (.bool r) ∧ Below w.heap.size w w' := by
  have hu30 := Try.underlying30
  have HR0_3 := Aside0.mk hr0_3
  have HC0_3 := Aside0.mk hc0_3
  clear hr0_3 hc0_3
  have HR0_4 := Aside0.mk hr0_4
  have HC0_4 := Aside0.mk hc0_4
  clear hr0_4 hc0_4
  have HR0_6 := Aside0.mk hr0_6
  have HC0_6 := Aside0.mk hc0_6
  clear hr0_6 hc0_6
  have HR1_3 := Aside0.mk hr1_3
  have HC1_3 := Aside0.mk hc1_3
  clear hr1_3 hc1_3
  have HR1_4 := Aside0.mk hr1_4
  have HC1_4 := Aside0.mk hc1_4
  clear hr1_4 hc1_4
  have HR1_6 := Aside0.mk hr1_6
  have HC1_6 := Aside0.mk hc1_6
  clear hr1_6 hc1_6
  have HB := Aside0.mk (Below.refl w.heap.size w)
  have H : ((whirligigref09_Compare.f k a0_0 a0_1 a0_2 l0_3 l0_4 a0_5 l0_6 a1_0 a1_1 a1_2 l1_3 l1_4 a1_5 l1_6).bind fun t317 => (some (t317 == 0))) = some r := h
  clear h
  replace H := Option.bind_eq_some_iff.mp H
  obtain ⟨t317, A30, H⟩ := H
  replace H : (some (t317 == 0)) = some r := H
  have A3 := Aside0.mk A30
  clear A30
  obtain rfl := Option.some.inj H
  go_enter Try.func19, Try.ntmps19
  go_wp2_with (first | ((with_reducible refine gate_dst (N := 2) rfl ?_); refine box_event ?hg (N := 2) ?hd (cs := #[.int .i64 a0_0, .int .i64 a0_1, .int .i64 a0_2, .slice A0_3 l0_3.length c0_3, .slice A0_4 l0_4.length c0_4, .int .i64 a0_5, .slice A0_6 l0_6.length c0_6]) (t := 30) ?hr ?_; (case hd => rfl); (case hg => rfl); (case hr => first | (go_simp; done) | (go_simp; rfl)); intro gb315 hg w4 hbox hb; have n0_ := Aside0.mk (below_step (by repeat (first | (with_reducible first | exact HB.out | apply below_alloc | apply pw_below_drewN | apply below_drew1) | exact HB.out)) hb); have n1_ := Aside0.mk (hbox); have n2_ := Aside0.mk ((by rw [hg]; exact (below_size (by repeat (first | (with_reducible first | exact HB.out | apply below_alloc | apply pw_below_drewN | apply below_drew1) | exact HB.out))) : w.heap.size ≤ gb315)); have n3_ := Aside0.mk ((by rw [hg]; exact (below_size (by repeat (first | (with_reducible first | exact HB.out | apply below_alloc | apply pw_below_drewN | apply below_drew1) | exact HB.out))) : w.heap.size ≤ gb315)); clear HB; have HB := n0_; have BK315 := n1_; have GW315 := n2_; have GE315 := n3_; clear n0_ n1_ n2_ n3_; clear hb hbox hg) | ((with_reducible refine gate_dst (N := 3) rfl ?_); refine box_event ?hg (N := 3) ?hd (cs := #[.int .i64 a1_0, .int .i64 a1_1, .int .i64 a1_2, .slice A1_3 l1_3.length c1_3, .slice A1_4 l1_4.length c1_4, .int .i64 a1_5, .slice A1_6 l1_6.length c1_6]) (t := 30) ?hr ?_; (case hd => rfl); (case hg => rfl); (case hr => first | (go_simp; done) | (go_simp; rfl)); intro gb316 hg w5 hbox hb; have n0_ := Aside0.mk (blk_below (g := gb315) (o := .cells #[.int .i64 a0_0, .int .i64 a0_1, .int .i64 a0_2, .slice A0_3 l0_3.length c0_3, .slice A0_4 l0_4.length c0_4, .int .i64 a0_5, .slice A0_6 l0_6.length c0_6] 30 (0, 0)) (by (with_reducible repeat (first | refine blk_drewN ?_ _ | refine blk_drew ?_ | refine blk_alloc ?_ _)); exact BK315.out) hb); have n1_ := Aside0.mk (below_step (by repeat (first | (with_reducible first | exact HB.out | apply below_alloc | apply pw_below_drewN | apply below_drew1 | refine below_set ?_ GE315.out) | exact HB.out)) hb); have n2_ := Aside0.mk (hbox); have n3_ := Aside0.mk ((by rw [hg]; exact (below_size (by repeat (first | (with_reducible first | exact HB.out | apply below_alloc | apply pw_below_drewN | apply below_drew1 | refine below_set ?_ GE315.out) | exact HB.out))) : w.heap.size ≤ gb316)); have n4_ := Aside0.mk ((by rw [hg]; exact (below_size (by repeat (first | (with_reducible first | exact HB.out | apply below_alloc | apply pw_below_drewN | apply below_drew1 | refine below_set ?_ GE315.out) | exact HB.out))) : w.heap.size ≤ gb316)); have n5_ := Aside0.mk ((by rw [hg]; exact Nat.ne_of_lt (blk_lt (g := gb315) (o := .cells #[.int .i64 a0_0, .int .i64 a0_1, .int .i64 a0_2, .slice A0_3 l0_3.length c0_3, .slice A0_4 l0_4.length c0_4, .int .i64 a0_5, .slice A0_6 l0_6.length c0_6] 30 (0, 0)) (by (with_reducible repeat (first | refine blk_drewN ?_ _ | refine blk_drew ?_ | refine blk_alloc ?_ _)); exact BK315.out)) : gb315 ≠ gb316)); have n6_ := Aside0.mk ((by rw [hg]; exact Nat.ne_of_gt (blk_lt (g := gb315) (o := .cells #[.int .i64 a0_0, .int .i64 a0_1, .int .i64 a0_2, .slice A0_3 l0_3.length c0_3, .slice A0_4 l0_4.length c0_4, .int .i64 a0_5, .slice A0_6 l0_6.length c0_6] 30 (0, 0)) (by (with_reducible repeat (first | refine blk_drewN ?_ _ | refine blk_drew ?_ | refine blk_alloc ?_ _)); exact BK315.out)) : gb316 ≠ gb315)); clear BK315; clear HB; have BK315 := n0_; have HB := n1_; have BK316 := n2_; have GW316 := n3_; have GE316 := n4_; have NB315_316 := n5_; have NB316_315 := n6_; clear n0_ n1_ n2_ n3_ n4_ n5_ n6_; clear hb hbox hg; have hnb6 := NB315_316.out; have hnc6 := NB316_315.out; have hcz7_0 : w5.cell? ⟨gb315, 0, none⟩ = some (.int .i64 a0_0) := (blk_cell BK315.out 0).trans rfl; have hcz7_1 : w5.cell? ⟨gb315, 1, none⟩ = some (.int .i64 a0_1) := (blk_cell BK315.out 1).trans rfl; have hcz7_2 : w5.cell? ⟨gb315, 2, none⟩ = some (.int .i64 a0_2) := (blk_cell BK315.out 2).trans rfl; have hcz7_3 : w5.cell? ⟨gb315, 3, none⟩ = some (.slice A0_3 l0_3.length c0_3) := (blk_cell BK315.out 3).trans rfl; have hcz7_4 : w5.cell? ⟨gb315, 4, none⟩ = some (.slice A0_4 l0_4.length c0_4) := (blk_cell BK315.out 4).trans rfl; have hcz7_5 : w5.cell? ⟨gb315, 5, none⟩ = some (.int .i64 a0_5) := (blk_cell BK315.out 5).trans rfl; have hcz7_6 : w5.cell? ⟨gb315, 6, none⟩ = some (.slice A0_6 l0_6.length c0_6) := (blk_cell BK315.out 6).trans rfl; have hfz7_0 := blk_frozen BK315.out 0; have hfz7_1 := blk_frozen BK315.out 1; have hfz7_2 := blk_frozen BK315.out 2; have hfz7_3 := blk_frozen BK315.out 3; have hfz7_4 := blk_frozen BK315.out 4; have hfz7_5 := blk_frozen BK315.out 5; have hfz7_6 := blk_frozen BK315.out 6; have hcz8_0 : w5.cell? ⟨gb316, 0, none⟩ = some (.int .i64 a1_0) := (blk_cell BK316.out 0).trans rfl; have hcz8_1 : w5.cell? ⟨gb316, 1, none⟩ = some (.int .i64 a1_1) := (blk_cell BK316.out 1).trans rfl; have hcz8_2 : w5.cell? ⟨gb316, 2, none⟩ = some (.int .i64 a1_2) := (blk_cell BK316.out 2).trans rfl; have hcz8_3 : w5.cell? ⟨gb316, 3, none⟩ = some (.slice A1_3 l1_3.length c1_3) := (blk_cell BK316.out 3).trans rfl; have hcz8_4 : w5.cell? ⟨gb316, 4, none⟩ = some (.slice A1_4 l1_4.length c1_4) := (blk_cell BK316.out 4).trans rfl; have hcz8_5 : w5.cell? ⟨gb316, 5, none⟩ = some (.int .i64 a1_5) := (blk_cell BK316.out 5).trans rfl; have hcz8_6 : w5.cell? ⟨gb316, 6, none⟩ = some (.slice A1_6 l1_6.length c1_6) := (blk_cell BK316.out 6).trans rfl; have hfz8_0 := blk_frozen BK316.out 0; have hfz8_1 := blk_frozen BK316.out 1; have hfz8_2 := blk_frozen BK316.out 2; have hfz8_3 := blk_frozen BK316.out 3; have hfz8_4 := blk_frozen BK316.out 4; have hfz8_5 := blk_frozen BK316.out 5; have hfz8_6 := blk_frozen BK316.out 6) | ((with_reducible refine gate_callee (f := 13) rfl ?_); refine goesL_ (some 7) rfl rfl Try.func13 (by kernel_rfl) rfl #[.agg #[.int .i64 a0_0, .int .i64 a0_1, .int .i64 a0_2, .slice A0_3 l0_3.length c0_3, .slice A0_4 l0_4.length c0_4, .int .i64 a0_5, .slice A0_6 l0_6.length c0_6], .agg #[.int .i64 a1_0, .int .i64 a1_1, .int .i64 a1_2, .slice A1_3 l1_3.length c1_3, .slice A1_4 l1_4.length c1_4, .int .i64 a1_5, .slice A1_6 l1_6.length c1_6]] rfl (by (try simp only [List.map_toArray, List.map_cons, List.map_nil]); first | done | rfl | (simp only [List.length_drop, List.length_take]; rfl)) ?_; (with_reducible refine (whirligigref09_Compare.calls k a0_0 a0_1 a0_2 _ _ l0_3 _ _ l0_4 a0_5 _ _ l0_6 a1_0 a1_1 a1_2 _ _ l1_3 _ _ l1_4 a1_5 _ _ l1_6 t317 _ ?side1 ?side2 ?side3 ?side4 ?side5 ?side6 ?side7 ?side8 ?side9 ?side10 ?side11 ?side12 A3.out).mono ?_); (case side1 => repeat (first | exact (Kd.C_below HR0_3.out HB.out) | (with_reducible refine Kd.C_alloc ?_ _) | (with_reducible refine Kd.C_drewN ?_ _) | (with_reducible refine Kd.C_drew ?_))); (case side2 => exact HC0_3.out); (case side3 => repeat (first | exact (Kd.C_below HR0_4.out HB.out) | (with_reducible refine Kd.C_alloc ?_ _) | (with_reducible refine Kd.C_drewN ?_ _) | (with_reducible refine Kd.C_drew ?_))); (case side4 => exact HC0_4.out); (case side5 => repeat (first | exact (Kd.C_below HR0_6.out HB.out) | (with_reducible refine Kd.C_alloc ?_ _) | (with_reducible refine Kd.C_drewN ?_ _) | (with_reducible refine Kd.C_drew ?_))); (case side6 => exact HC0_6.out); (case side7 => repeat (first | exact (Kd.C_below HR1_3.out HB.out) | (with_reducible refine Kd.C_alloc ?_ _) | (with_reducible refine Kd.C_drewN ?_ _) | (with_reducible refine Kd.C_drew ?_))); (case side8 => exact HC1_3.out); (case side9 => repeat (first | exact (Kd.C_below HR1_4.out HB.out) | (with_reducible refine Kd.C_alloc ?_ _) | (with_reducible refine Kd.C_drewN ?_ _) | (with_reducible refine Kd.C_drew ?_))); (case side10 => exact HC1_4.out); (case side11 => repeat (first | exact (Kd.C_below HR1_6.out HB.out) | (with_reducible refine Kd.C_alloc ?_ _) | (with_reducible refine Kd.C_drewN ?_ _) | (with_reducible refine Kd.C_drew ?_))); (case side12 => exact HC1_6.out); rintro e w9 ⟨rfl, hb⟩; refine ⟨_, rfl, ?_⟩; have n0_ := Aside0.mk (blk_below (g := gb315) (o := .cells #[.int .i64 a0_0, .int .i64 a0_1, .int .i64 a0_2, .slice A0_3 l0_3.length c0_3, .slice A0_4 l0_4.length c0_4, .int .i64 a0_5, .slice A0_6 l0_6.length c0_6] 30 (0, 0)) (by (with_reducible repeat (first | refine blk_drewN ?_ _ | refine blk_drew ?_ | refine blk_alloc ?_ _)); exact BK315.out) hb); have n1_ := Aside0.mk (blk_below (g := gb316) (o := .cells #[.int .i64 a1_0, .int .i64 a1_1, .int .i64 a1_2, .slice A1_3 l1_3.length c1_3, .slice A1_4 l1_4.length c1_4, .int .i64 a1_5, .slice A1_6 l1_6.length c1_6] 30 (0, 0)) (by (with_reducible repeat (first | refine blk_drewN ?_ _ | refine blk_drew ?_ | refine blk_alloc ?_ _)); exact BK316.out) hb); have n2_ := Aside0.mk (below_step (by repeat (first | (with_reducible first | exact HB.out | apply below_alloc | apply pw_below_drewN | apply below_drew1 | refine below_set ?_ GE315.out | refine below_set ?_ GE316.out) | exact HB.out)) hb); clear BK315; clear BK316; clear HB; have BK315 := n0_; have BK316 := n1_; have HB := n2_; clear n0_ n1_ n2_; (try clear hb); (try clear hb2); (try clear hk); (try clear hi)))
  go_ret
  exact ⟨by first | rfl | (simp [errW_none, errW_some] <;> rfl) | (simp [*, errW_none, errW_some] <;> rfl), by repeat (first | (with_reducible first | exact HB.out | apply below_alloc | apply pw_below_drewN | apply below_drew1 | refine below_set ?_ GE315.out | refine below_set ?_ GE316.out) | exact HB.out)⟩

end Go.Proofs.Ytnnlbofmlfafhaa.P

/- Part of the proof of RowAddrBack: what it asks of functions, words and plain facts (put together by this session's own program, wip/tools/shake.py). -/
import Derived.Test.YtckffheolnmcnabDoorZAddrBack0
import Derived.Test.YtckffheolnmcnabDoorZAddrBack1
section
namespace Go.Proofs.YtckffheolnmcnabDoor.P
open Go.RowKit Go.Proofs.YtckffheolnmcnabDoorW.PrintWords Go.Proofs.YtckffheolnmcnabDoorW.PrintLast Go.Proofs.YtckffheolnmcnabDoorW.PrintMore
attribute [local go_sem] max2_int min2_int max_two min_two max_three min_three max_four min_four   -- for this text's walks alone
set_option linter.unusedVariables false
set_option linter.unusedSimpArgs false

attribute [local go_sem high] eqA24
def addr_sister.j0 : Nat → Bool → Int → Int → Int → Int → Option (Bool)
  | 0, _, _, _, _, _ => none
  | k + 1, x16, x125000, x125001, x126000, x126001 => if x16 = true then (some false) else ((addr_mask.f (wrap64 (x125001 - 1))).bind fun t126 => ((addr_halves.f (Go.bits .and .u32 x125000 t126) (wrap64 (x125001 - 1))).bind fun bt127 => (if (bt127.1 == x125000 && (bt127.2.1 == x125001)) = true then (some (bt127.2.2.1 == x126000 && (bt127.2.2.2 == x126001))) else (some false))))
def addr_sister.f (k : Nat) (a0_0 : Int) (a0_1 : Int) (a1_0 : Int) (a1_1 : Int) : Option (Bool) := if a0_1 = 0 then (addr_sister.j0 k true a0_0 a0_1 a1_0 a1_1) else (addr_sister.j0 k (a0_1 != a1_1) a0_0 a0_1 a1_0 a1_1)
theorem addr_sister.mono_l : ∀ k, (∀ y0 y1 y2 y3 y4, LeO (addr_sister.j0 k y0 y1 y2 y3 y4) (addr_sister.j0 (k + 1) y0 y1 y2 y3 y4))
  | 0 => fun _ _ _ _ _ r h => by simp [addr_sister.j0] at h
  | k + 1 => by
    have ih0 := addr_sister.mono_l k
    · intro y0 y1 y2 y3 y4
      unfold addr_sister.j0
      repeat' first
      | (with_reducible exact ih0 _ _ _ _ _)
      | (with_reducible exact LeO.refl _)
      | (with_reducible exact LeO.none _)
      | (with_reducible refine LeO.ite ?_ ?_)
      | (with_reducible refine LeO.bind ?_ (fun _ => ?_))
      | exact ih0 _ _ _ _ _
      | exact LeO.none _
      | refine LeO.ite ?_ ?_
      | refine LeO.bind ?_ (fun _ => ?_)
theorem addr_sister.mono : ∀ a0 a1 a2 a3 k, LeO (addr_sister.f k a0 a1 a2 a3) (addr_sister.f (k + 1) a0 a1 a2 a3) := by
  intro a0 a1 a2 a3 k
  have ih0 := addr_sister.mono_l k
  unfold addr_sister.f
  repeat' first
      | (with_reducible exact ih0 _ _ _ _ _)
      | (with_reducible exact LeO.refl _)
      | (with_reducible exact LeO.none _)
      | (with_reducible refine LeO.ite ?_ ?_)
      | (with_reducible refine LeO.bind ?_ (fun _ => ?_))
      | exact ih0 _ _ _ _ _
      | exact LeO.none _
      | refine LeO.ite ?_ ?_
      | refine LeO.bind ?_ (fun _ => ?_)
def addr_sister.T3 : Bool × List (List Nat × List Nat) := (true, [([], []), ([0], [0]), ([], []), ([2], [2]), ([3], [3]), ([4], [4]), ([1, 5], [1, 5]), ([], []), ([7], [7]), ([8], [8]), ([6, 9], [6, 9]), ([10, 5], [10]), ([11], [11]), ([12], [12]), ([12], [12]), ([], []), ([], []), ([15, 13, 11, 0, 1, 2, 3, 4, 5, 6, 7, 8, 9, 10, 11, 12, 13, 15, 16], [13, 15]), ([16, 14, 17, 0, 1, 2, 3, 4, 5, 6, 7, 8, 9, 10, 11, 12, 13, 14, 15, 16, 17], [14, 16])])
def addr_sister.B3 : List Nat := [0, 1, 0, 4, 12, 28, 63, 0, 128, 384, 1023, 2047, 4095, 8191, 8191, 0, 0, 114687, 262143]
theorem addr_sister.tab3 : rtab .any (opsOf Tryd.f30 3) = addr_sister.T3 := by kernel_rfl
theorem addr_sister.bits3 : waitsOk addr_sister.T3.2 addr_sister.B3 = true := by kernel_rfl
theorem k4592.b2e {W : World} {g : Nat} {v0 v1 : Value} {t : TypeId} (h : W.heap[g]? = some (.cells #[v0, v1] t (0, 0))) : W.cell? ⟨g, 0, none⟩ = some v0 ∧ W.cell? ⟨g, 1, none⟩ = some v1 :=
  ⟨(blk_cell h 0).trans rfl, (blk_cell h 1).trans rfl⟩
@[reducible] def k4592.S0 (g0 : Nat) (v0 v1 : Value) (w' : World) : Prop := w'.cell? ⟨g0, 0, none⟩ = some v0 ∧ w'.cell? ⟨g0, 1, none⟩ = some v1
set_option maxHeartbeats 8000000 in
set_option maxRecDepth 100000 in
theorem addr_sister.calls (k : Nat) (aj : Int) (ai : Int) (a5 : Int) (a4 : Int) (r : Bool) (w : World) (h : addr_sister.f k aj ai a5 a4 = some r) :
  Calls Tryd.prog 30 #[.agg #[.int .u32 aj, .int .i64 ai], .agg #[.int .u32 a5, .int .i64 a4]] w fun e w' => e = .returned (.bool r) ∧ Below w.heap.size w w' := by
 have hu24 := Tryd.underlying24
 have HB := Aside0.mk (Below.refl w.heap.size w)
 have H : (if ai = 0 then (addr_sister.j0 k true aj ai a5 a4) else (addr_sister.j0 k (ai != a4) aj ai a5 a4)) = some r := h
 clear h
 have HC3 := Aside0.mk H
 clear H
 go_enter Tryd.func30, Tryd.ntmps30
 go_upto_region 1 with (first | ((with_reducible refine gate_dst (N := 2) rfl ?_); refine box_event ?hg (N := 2) ?hd (cs := #[.int .u32 aj, .int .i64 ai]) (t := 24) ?hr ?_; (case hd => rfl); (case hg => rfl); (case hr => first | (go_simp; done) | (go_simp; rfl)); intro aa hg w4 hbox hb; have n0_ := Aside0.mk (below_step (by repeat (first | (with_reducible first | exact HB.out | apply below_alloc | apply pw_below_drewN | apply below_drew1) | exact HB.out)) hb); have n1_ := Aside0.mk (hbox); have n2_ := Aside0.mk ((by rw [hg]; exact (below_size (by repeat (first | (with_reducible first | exact HB.out | apply below_alloc | apply pw_below_drewN | apply below_drew1) | exact HB.out))) : w.heap.size ≤ aa)); have n3_ := Aside0.mk ((by rw [hg]; exact (below_size (by repeat (first | (with_reducible first | exact HB.out | apply below_alloc | apply pw_below_drewN | apply below_drew1) | exact HB.out))) : w.heap.size ≤ aa)); clear HB; have HB := n0_; have ab := n1_; have GW124 := n2_; have ao := n3_; clear n0_ n1_ n2_ n3_; clear hb hbox hg) | ((with_reducible refine gate_dst (N := 3) rfl ?_); refine box_event ?hg (N := 3) ?hd (cs := #[.int .u32 a5, .int .i64 a4]) (t := 24) ?hr ?_; (case hd => rfl); (case hg => rfl); (case hr => first | (go_simp; done) | (go_simp; rfl)); intro ad hg w5 hbox hb; have n0_ := Aside0.mk (blk_below (g := aa) (by (with_reducible repeat (first | refine blk_drewN ?_ _ | refine blk_drew ?_ | refine blk_alloc ?_ _)); exact ab.out) hb); have n1_ := Aside0.mk (below_step (by repeat (first | (with_reducible first | exact HB.out | apply below_alloc | apply pw_below_drewN | apply below_drew1 | refine below_set ?_ ao.out) | exact HB.out)) hb); have n2_ := Aside0.mk (hbox); have n3_ := Aside0.mk ((by rw [hg]; exact (below_size (by repeat (first | (with_reducible first | exact HB.out | apply below_alloc | apply pw_below_drewN | apply below_drew1 | refine below_set ?_ ao.out) | exact HB.out))) : w.heap.size ≤ ad)); have n4_ := Aside0.mk ((by rw [hg]; exact (below_size (by repeat (first | (with_reducible first | exact HB.out | apply below_alloc | apply pw_below_drewN | apply below_drew1 | refine below_set ?_ ao.out) | exact HB.out))) : w.heap.size ≤ ad)); have n5_ := Aside0.mk ((by rw [hg]; exact Nat.ne_of_lt (blk_lt (g := aa) (o := .cells #[.int .u32 aj, .int .i64 ai] 24 (0, 0)) (by (with_reducible repeat (first | refine blk_drewN ?_ _ | refine blk_drew ?_ | refine blk_alloc ?_ _)); exact ab.out)) : aa ≠ ad)); have n6_ := Aside0.mk ((by rw [hg]; exact Nat.ne_of_gt (blk_lt (g := aa) (o := .cells #[.int .u32 aj, .int .i64 ai] 24 (0, 0)) (by (with_reducible repeat (first | refine blk_drewN ?_ _ | refine blk_drew ?_ | refine blk_alloc ?_ _)); exact ab.out)) : ad ≠ aa)); clear ab; clear HB; have ab := n0_; have HB := n1_; have af := n2_; have GW125 := n3_; have ar := n4_; have NB124_125 := n5_; have NB125_124 := n6_; clear n0_ n1_ n2_ n3_ n4_ n5_ n6_; clear hb hbox hg))
 (try simp only [Act.put, List.setIfInBounds_toArray, List.set_cons_zero, List.set_cons_succ])
 go_cut [16] (fun v16 wc => ∃ (kq : Nat) (x16_2 : Bool), v16 = .bool x16_2 ∧ Aside0 (addr_sister.j0 kq x16_2 aj ai a5 a4 = some r) ∧ Aside0 (kq ≤ k) ∧ Aside0 (wc.heap[aa]? = some (.cells #[.int .u32 aj, .int .i64 ai] 24 (0, 0))) ∧ Aside0 (wc.heap[ad]? = some (.cells #[.int .u32 a5, .int .i64 a4] 24 (0, 0))) ∧ Aside0 (Below w.heap.size w wc))
 case first =>
  have H := HC3.out
  clear HC3
  by_cases c6 : ai = 0
  ·rw [if_pos c6] at H
   have c6b0 : (ai == 0) = true := beq_iff_eq.mpr c6
   have c6b1 : (ai != 0) = false := bne_eq_false_iff_eq.mpr c6
   clear c6
   (first | rw [c6b0] | (simp only [i64_w]; rw [c6b0]) | skip)
   have H' := Aside0.mk H
   clear H
   have hnb7 := NB124_125.out
   have hnc7 := NB125_124.out
   have hcz8_0 : w5.cell? ⟨aa, 0, none⟩ = some (.int .u32 aj) := (blk_cell ab.out 0).trans rfl
   have hcz8_1 : w5.cell? ⟨aa, 1, none⟩ = some (.int .i64 ai) := (blk_cell ab.out 1).trans rfl
   have hfz8_0 := blk_frozen ab.out 0
   have hfz8_1 := blk_frozen ab.out 1
   go_wp2
   go_meet
   case rel => exact ⟨_, (true), (by first | rfl | (simp; done) | (simp [*]; done)), H', ⟨by first | omega | exact Nat.le_refl _⟩, ⟨by (with_reducible repeat (first | refine blk_drewN ?_ _ | refine blk_drew ?_ | refine blk_alloc ?_ _)); exact ab.out⟩, ⟨by (with_reducible repeat (first | refine blk_drewN ?_ _ | refine blk_drew ?_ | refine blk_alloc ?_ _)); exact af.out⟩, ⟨by repeat (first | (with_reducible first | exact HB.out | apply below_alloc | apply pw_below_drewN | apply below_drew1 | refine below_set ?_ ao.out | refine below_set ?_ ar.out) | exact HB.out)⟩⟩
  ·rw [if_neg c6] at H
   have c6b0 : (ai == 0) = false := beq_eq_false_iff_ne.mpr c6
   have c6b1 : (ai != 0) = true := bne_iff_ne.mpr c6
   (first | rw [c6b0] | (simp only [i64_w]; rw [c6b0]) | skip)
   have H' := Aside0.mk H
   clear H
   have hnb9 := NB124_125.out
   have hnc9 := NB125_124.out
   have hcz10_0 : w5.cell? ⟨aa, 0, none⟩ = some (.int .u32 aj) := (blk_cell ab.out 0).trans rfl
   have hcz10_1 : w5.cell? ⟨aa, 1, none⟩ = some (.int .i64 ai) := (blk_cell ab.out 1).trans rfl
   have hfz10_0 := blk_frozen ab.out 0
   have hfz10_1 := blk_frozen ab.out 1
   have hcz11_0 : w5.cell? ⟨ad, 0, none⟩ = some (.int .u32 a5) := (blk_cell af.out 0).trans rfl
   have hcz11_1 : w5.cell? ⟨ad, 1, none⟩ = some (.int .i64 a4) := (blk_cell af.out 1).trans rfl
   have hfz11_0 := blk_frozen af.out 0
   have hfz11_1 := blk_frozen af.out 1
   go_wp2
   go_meet
   case rel => exact ⟨_, ((ai != a4)), (by first | rfl | (simp; done) | (simp [*]; done)), H', ⟨by first | omega | exact Nat.le_refl _⟩, ⟨by (with_reducible repeat (first | refine blk_drewN ?_ _ | refine blk_drew ?_ | refine blk_alloc ?_ _)); exact ab.out⟩, ⟨by (with_reducible repeat (first | refine blk_drewN ?_ _ | refine blk_drew ?_ | refine blk_alloc ?_ _)); exact af.out⟩, ⟨by repeat (first | (with_reducible first | exact HB.out | apply below_alloc | apply pw_below_drewN | apply below_drew1 | refine below_set ?_ ao.out | refine below_set ?_ ar.out) | exact HB.out)⟩⟩
 case rest =>
  clear HC3
  try clear p2
  try clear c3
  try clear c6
  try clear c6b0
  try clear c6b1
  try clear c7
  try clear c9
  try clear hcz10_0
  try clear hcz10_1
  try clear hcz11_0
  try clear hcz11_1
  try clear hcz8_0
  try clear hcz8_1
  try clear hfz10_0
  try clear hfz10_1
  try clear hfz11_0
  try clear hfz11_1
  try clear hfz8_0
  try clear hfz8_1
  obtain ⟨kq, x16_2, rfl, HA, HJ2, ab, af, HB⟩ := hcut
  cases kq with
  | zero => exact absurd HA.out (by simp [addr_sister.j0])
  | succ kj2 =>
   have H := HA.out
   clear HA
   simp only [addr_sister.j0] at H
   by_cases c12 : x16_2 = true
   ·subst c12
    have H1 : (some false) = some r := by rw [if_pos rfl] at H; exact H
    clear H
    have H := H1
    clear H1
    obtain rfl := Option.some.inj H
    go_wp2
    go_ret
    exact ⟨by first | rfl | (simp [errW_none, errW_some] <;> rfl) | (simp [*, errW_none, errW_some] <;> rfl), by repeat (first | (with_reducible first | exact HB.out | apply below_alloc | apply pw_below_drewN | apply below_drew1 | refine below_set ?_ ao.out | refine below_set ?_ ar.out) | exact HB.out)⟩
   ·replace c12 := Bool.eq_false_iff.mpr c12
    subst c12
    have H1 := H
    rw [if_neg (show ¬ (false = true) by decide)] at H1
    clear H
    have H := H1
    clear H1
    replace H := Option.bind_eq_some_iff.mp H
    obtain ⟨t126, A130, H⟩ := H
    (try dsimp only at H)
    have a9 := Aside0.mk A130
    clear A130
    replace H := Option.bind_eq_some_iff.mp H
    obtain ⟨⟨t127, t128, t129, t130⟩, A140, H⟩ := H
    (try dsimp only at H)
    have ba := Aside0.mk A140
    clear A140
    by_cases a8 : (t127 == aj && (t128 == ai)) = true
    ·rw [if_pos a8] at H
     have c15b0 : (t127 == aj && (t128 == ai)) = true := a8
     (try (have c15b1 : decide (t127 = aj && (t128 == ai)) = true := by simpa using a8))
     (try (have c15b2 : (t127 == aj && (t128 == ai)) = true := by simpa using a8))
     clear a8
     obtain rfl := Option.some.inj H
     try go_wp2
     replace ab := Aside0.mk (blk_drew ab.out)
     replace af := Aside0.mk (blk_drew af.out)
     replace HB := Aside0.mk (below_drew1 HB.out)
     refine start_ (n := 19) (S := k4592.S0 aa (.int .u32 aj) (.int .i64 ai)) (ds := []) #[false, false, false, false, false, false, false, false, false, false, false, false, false, false, false, false, false, false, false] (by kernel_rfl) rfl rfl (k4592.b2e ab.out) (fun hHeld => ?_); refine with_tabW addr_sister.tab3 addr_sister.bits3 (fun HT_ HW_ => ?_)
     generalize wc.drew = w16 at ab af HB hHeld ⊢
     refine pure_ (i := 0) (N := some 18) (v := ?_) (a' := ?_) #[true, false, false, false, false, false, false, false, false, false, false, false, false, false, false, false, false, false, false] rfl rfl (any_of HT_.out (by kernel_rfl)) (fun _ _ _ h => h) (Or.inl ⟨by rfl, ?_⟩) ?_ ?_
     rotate_left
     ·intro w'
      go_simp
      with_reducible rfl
     rotate_left
     ·simp only [Act.put, List.setIfInBounds_toArray, List.set_cons_zero, List.set_cons_succ, i64_w]
      rfl
     refine pure_ (i := 2) (N := some 20) (v := ?_) (a' := ?_) #[true, false, true, false, false, false, false, false, false, false, false, false, false, false, false, false, false, false, false] rfl rfl (any_of HT_.out (by kernel_rfl)) (fun _ _ _ h => h) (Or.inl ⟨by rfl, ?_⟩) ?_ ?_
     rotate_left
     ·intro w'
      go_simp
      with_reducible rfl
     rotate_left
     ·simp only [Act.put, List.setIfInBounds_toArray, List.set_cons_zero, List.set_cons_succ, i64_w]
      rfl
     refine pure_ (i := 7) (N := some 25) (v := ?_) (a' := ?_) #[true, false, true, false, false, false, false, true, false, false, false, false, false, false, false, false, false, false, false] rfl rfl (any_of HT_.out (by kernel_rfl)) (fun _ _ _ h => h) (Or.inl ⟨by rfl, ?_⟩) ?_ ?_
     rotate_left
     ·intro w'
      go_simp
      with_reducible rfl
     rotate_left
     ·simp only [Act.put, List.setIfInBounds_toArray, List.set_cons_zero, List.set_cons_succ, i64_w]
      rfl
     refine take_ (i := 1) (N := some 19) (v := ?_) (a' := ?_) #[true, true, true, false, false, false, false, true, false, false, false, false, false, false, false, false, false, false, false] rfl rfl (take_ofW HT_.out HW_.out (by kernel_rfl)) (fun _ _ _ h => h) (Or.inl ⟨by rfl, ?_⟩) hHeld ?_ ?_
     rotate_left
     ·rintro w' ⟨s0, s1⟩
      go_simp
      with_reducible rfl
     rotate_left
     ·simp only [Act.put, List.setIfInBounds_toArray, List.set_cons_zero, List.set_cons_succ, i64_w]
      rfl
     refine take_ (i := 3) (N := some 21) (v := ?_) (a' := ?_) #[true, true, true, true, false, false, false, true, false, false, false, false, false, false, false, false, false, false, false] rfl rfl (take_ofW HT_.out HW_.out (by kernel_rfl)) (fun _ _ _ h => h) (Or.inl ⟨by rfl, ?_⟩) hHeld ?_ ?_
     rotate_left
     ·rintro w' ⟨s0, s1⟩
      go_simp
      with_reducible rfl
     rotate_left
     ·simp only [Act.put, List.setIfInBounds_toArray, List.set_cons_zero, List.set_cons_succ, i64_w]
      rfl
     refine pure_ (i := 4) (N := some 22) (v := ?_) (a' := ?_) #[true, true, true, true, true, false, false, true, false, false, false, false, false, false, false, false, false, false, false] rfl rfl (any_of HT_.out (by kernel_rfl)) (fun _ _ _ h => h) (Or.inl ⟨by rfl, ?_⟩) ?_ ?_
     rotate_left
     ·intro w'
      go_simp
      with_reducible rfl
     rotate_left
     ·simp only [Act.put, List.setIfInBounds_toArray, List.set_cons_zero, List.set_cons_succ, i64_w]
      rfl
     refine take_ (i := 8) (N := some 26) (v := ?_) (a' := ?_) #[true, true, true, true, true, false, false, true, true, false, false, false, false, false, false, false, false, false, false] rfl rfl (take_ofW HT_.out HW_.out (by kernel_rfl)) (fun _ _ _ h => h) (Or.inl ⟨by rfl, ?_⟩) hHeld ?_ ?_
     rotate_left
     ·rintro w' ⟨s0, s1⟩
      go_simp
      with_reducible rfl
     rotate_left
     ·simp only [Act.put, List.setIfInBounds_toArray, List.set_cons_zero, List.set_cons_succ, i64_w]
      rfl
     refine pure_ (i := 9) (N := some 27) (v := ?_) (a' := ?_) #[true, true, true, true, true, false, false, true, true, true, false, false, false, false, false, false, false, false, false] rfl rfl (any_of HT_.out (by kernel_rfl)) (fun _ _ _ h => h) (Or.inl ⟨by rfl, ?_⟩) ?_ ?_
     rotate_left
     ·intro w'
      go_simp
      with_reducible rfl
     rotate_left
     ·simp only [Act.put, List.setIfInBounds_toArray, List.set_cons_zero, List.set_cons_succ, i64_w]
      rfl
     refine join_ (σ := Nat × Nat) 2 #[true, true, true, true, true, true, true, true, true, true, true, true, true, true, true, true, true, false, false] (fun s_ => [(23, .int .u32 t126), (29, .tuple #[.agg #[.int .u32 t127, .int .i64 t128], .agg #[.int .u32 t129, .int .i64 t130]]), (5, .pointer (some ⟨s_.1, 0, none⟩)), (6, .pointer (some ⟨s_.2, 0, none⟩)), (24, .int .u32 (Go.bits .and .u32 aj t126)), (28, .agg #[.int .u32 (Go.bits .and .u32 aj t126), .int .i64 (wrap64 (ai - 1))]), (17, .tuple #[.agg #[.int .u32 t127, .int .i64 t128], .agg #[.int .u32 t129, .int .i64 t130]]), (30, .agg #[.int .u32 t127, .int .i64 t128]), (31, .agg #[.int .u32 t129, .int .i64 t130])]) (fun s_ w' => (w'.cell? ⟨aa, 0, none⟩ = some (.int .u32 aj) ∧ w'.cell? ⟨aa, 1, none⟩ = some (.int .i64 ai)) ∧ (w'.heap[aa]? = some (.cells #[.int .u32 aj, .int .i64 ai] 24 (0, 0))) ∧ (w'.heap[ad]? = some (.cells #[.int .u32 a5, .int .i64 a4] 24 (0, 0))) ∧ (w'.heap[s_.1]? = some (.cells #[.int .u32 0, .int .i64 0] 24 (0, 0))) ∧ (w'.heap[s_.2]? = some (.cells #[.int .u32 0, .int .i64 0] 24 (0, 0))) ∧ (w.heap.size ≤ s_.1) ∧ (w.heap.size ≤ s_.1) ∧ (aa ≠ s_.1) ∧ (s_.1 ≠ aa) ∧ (ad ≠ s_.1) ∧ (s_.1 ≠ ad) ∧ (s_.2 ≠ s_.1) ∧ (s_.1 ≠ s_.2) ∧ (w.heap.size ≤ s_.2) ∧ (w.heap.size ≤ s_.2) ∧ (aa ≠ s_.2) ∧ (s_.2 ≠ aa) ∧ (ad ≠ s_.2) ∧ (s_.2 ≠ ad) ∧ (Below w.heap.size w w')) ?_ ?_
     rotate_left
     ·intro hJ5_11_15_16
      refine join_ (σ := Nat) 3 #[true, true, true, true, true, true, true, true, true, true, true, true, true, true, true, true, false, false, false] (fun s_ => [(23, .int .u32 t126), (29, .tuple #[.agg #[.int .u32 t127, .int .i64 t128], .agg #[.int .u32 t129, .int .i64 t130]]), (5, .pointer (some ⟨s_, 0, none⟩)), (24, .int .u32 (Go.bits .and .u32 aj t126)), (28, .agg #[.int .u32 (Go.bits .and .u32 aj t126), .int .i64 (wrap64 (ai - 1))]), (17, .tuple #[.agg #[.int .u32 t127, .int .i64 t128], .agg #[.int .u32 t129, .int .i64 t130]]), (30, .agg #[.int .u32 t127, .int .i64 t128]), (31, .agg #[.int .u32 t129, .int .i64 t130])]) (fun s_ w' => (w'.cell? ⟨aa, 0, none⟩ = some (.int .u32 aj) ∧ w'.cell? ⟨aa, 1, none⟩ = some (.int .i64 ai)) ∧ (w'.heap[aa]? = some (.cells #[.int .u32 aj, .int .i64 ai] 24 (0, 0))) ∧ (w'.heap[ad]? = some (.cells #[.int .u32 a5, .int .i64 a4] 24 (0, 0))) ∧ (w'.heap[s_]? = some (.cells #[.int .u32 0, .int .i64 0] 24 (0, 0))) ∧ (w.heap.size ≤ s_) ∧ (w.heap.size ≤ s_) ∧ (aa ≠ s_) ∧ (s_ ≠ aa) ∧ (ad ≠ s_) ∧ (s_ ≠ ad) ∧ (Below w.heap.size w w')) ?_ ?_
      rotate_left
      ·intro hJ5_11_15
       refine join_ (σ := Nat) 3 #[true, true, true, true, true, true, true, true, true, true, true, true, true, true, true, false, true, false, false] (fun s_ => [(23, .int .u32 t126), (29, .tuple #[.agg #[.int .u32 t127, .int .i64 t128], .agg #[.int .u32 t129, .int .i64 t130]]), (6, .pointer (some ⟨s_, 0, none⟩)), (24, .int .u32 (Go.bits .and .u32 aj t126)), (28, .agg #[.int .u32 (Go.bits .and .u32 aj t126), .int .i64 (wrap64 (ai - 1))]), (17, .tuple #[.agg #[.int .u32 t127, .int .i64 t128], .agg #[.int .u32 t129, .int .i64 t130]]), (30, .agg #[.int .u32 t127, .int .i64 t128]), (31, .agg #[.int .u32 t129, .int .i64 t130])]) (fun s_ w' => (w'.cell? ⟨aa, 0, none⟩ = some (.int .u32 aj) ∧ w'.cell? ⟨aa, 1, none⟩ = some (.int .i64 ai)) ∧ (w'.heap[aa]? = some (.cells #[.int .u32 aj, .int .i64 ai] 24 (0, 0))) ∧ (w'.heap[ad]? = some (.cells #[.int .u32 a5, .int .i64 a4] 24 (0, 0))) ∧ (w'.heap[s_]? = some (.cells #[.int .u32 0, .int .i64 0] 24 (0, 0))) ∧ (w.heap.size ≤ s_) ∧ (w.heap.size ≤ s_) ∧ (aa ≠ s_) ∧ (s_ ≠ aa) ∧ (ad ≠ s_) ∧ (s_ ≠ ad) ∧ (Below w.heap.size w w')) ?_ ?_
       rotate_left
       ·intro hJ5_11_16
        refine join_ (σ := Nat × Nat) 6 #[true, true, true, true, true, true, true, true, true, true, true, false, false, false, false, true, true, false, false] (fun s_ => [(23, .int .u32 t126), (5, .pointer (some ⟨s_.1, 0, none⟩)), (6, .pointer (some ⟨s_.2, 0, none⟩)), (24, .int .u32 (Go.bits .and .u32 aj t126)), (28, .agg #[.int .u32 (Go.bits .and .u32 aj t126), .int .i64 (wrap64 (ai - 1))])]) (fun s_ w' => (w'.cell? ⟨aa, 0, none⟩ = some (.int .u32 aj) ∧ w'.cell? ⟨aa, 1, none⟩ = some (.int .i64 ai)) ∧ (w'.heap[aa]? = some (.cells #[.int .u32 aj, .int .i64 ai] 24 (0, 0))) ∧ (w'.heap[ad]? = some (.cells #[.int .u32 a5, .int .i64 a4] 24 (0, 0))) ∧ (w'.heap[s_.1]? = some (.cells #[.int .u32 0, .int .i64 0] 24 (0, 0))) ∧ (w'.heap[s_.2]? = some (.cells #[.int .u32 0, .int .i64 0] 24 (0, 0))) ∧ (w.heap.size ≤ s_.1) ∧ (w.heap.size ≤ s_.1) ∧ (aa ≠ s_.1) ∧ (s_.1 ≠ aa) ∧ (ad ≠ s_.1) ∧ (s_.1 ≠ ad) ∧ (s_.2 ≠ s_.1) ∧ (s_.1 ≠ s_.2) ∧ (w.heap.size ≤ s_.2) ∧ (w.heap.size ≤ s_.2) ∧ (aa ≠ s_.2) ∧ (s_.2 ≠ aa) ∧ (ad ≠ s_.2) ∧ (s_.2 ≠ ad) ∧ (Below w.heap.size w w')) ?_ ?_
        rotate_left
        ·intro hJ5_15_16
         refine join_ (σ := Unit) 4 #[true, true, true, true, true, true, true, true, true, true, true, true, true, true, true, false, false, false, false] (fun s_ => [(23, .int .u32 t126), (29, .tuple #[.agg #[.int .u32 t127, .int .i64 t128], .agg #[.int .u32 t129, .int .i64 t130]]), (24, .int .u32 (Go.bits .and .u32 aj t126)), (28, .agg #[.int .u32 (Go.bits .and .u32 aj t126), .int .i64 (wrap64 (ai - 1))]), (17, .tuple #[.agg #[.int .u32 t127, .int .i64 t128], .agg #[.int .u32 t129, .int .i64 t130]]), (30, .agg #[.int .u32 t127, .int .i64 t128]), (31, .agg #[.int .u32 t129, .int .i64 t130])]) (fun s_ w' => (w'.cell? ⟨aa, 0, none⟩ = some (.int .u32 aj) ∧ w'.cell? ⟨aa, 1, none⟩ = some (.int .i64 ai)) ∧ (w'.heap[aa]? = some (.cells #[.int .u32 aj, .int .i64 ai] 24 (0, 0))) ∧ (w'.heap[ad]? = some (.cells #[.int .u32 a5, .int .i64 a4] 24 (0, 0))) ∧ (Below w.heap.size w w')) ?_ ?_
         rotate_left
         ·intro hJ5_11
          refine join_ (σ := Nat) 7 #[true, true, true, true, true, true, true, true, true, true, true, false, false, false, false, true, false, false, false] (fun s_ => [(23, .int .u32 t126), (5, .pointer (some ⟨s_, 0, none⟩)), (24, .int .u32 (Go.bits .and .u32 aj t126)), (28, .agg #[.int .u32 (Go.bits .and .u32 aj t126), .int .i64 (wrap64 (ai - 1))])]) (fun s_ w' => (w'.cell? ⟨aa, 0, none⟩ = some (.int .u32 aj) ∧ w'.cell? ⟨aa, 1, none⟩ = some (.int .i64 ai)) ∧ (w'.heap[aa]? = some (.cells #[.int .u32 aj, .int .i64 ai] 24 (0, 0))) ∧ (w'.heap[ad]? = some (.cells #[.int .u32 a5, .int .i64 a4] 24 (0, 0))) ∧ (w'.heap[s_]? = some (.cells #[.int .u32 0, .int .i64 0] 24 (0, 0))) ∧ (w.heap.size ≤ s_) ∧ (w.heap.size ≤ s_) ∧ (aa ≠ s_) ∧ (s_ ≠ aa) ∧ (ad ≠ s_) ∧ (s_ ≠ ad) ∧ (Below w.heap.size w w')) ?_ ?_
          rotate_left
          ·intro hJ5_15
           refine join_ (σ := Nat) 7 #[true, true, true, true, true, true, true, true, true, true, true, false, false, false, false, false, true, false, false] (fun s_ => [(23, .int .u32 t126), (6, .pointer (some ⟨s_, 0, none⟩)), (24, .int .u32 (Go.bits .and .u32 aj t126)), (28, .agg #[.int .u32 (Go.bits .and .u32 aj t126), .int .i64 (wrap64 (ai - 1))])]) (fun s_ w' => (w'.cell? ⟨aa, 0, none⟩ = some (.int .u32 aj) ∧ w'.cell? ⟨aa, 1, none⟩ = some (.int .i64 ai)) ∧ (w'.heap[aa]? = some (.cells #[.int .u32 aj, .int .i64 ai] 24 (0, 0))) ∧ (w'.heap[ad]? = some (.cells #[.int .u32 a5, .int .i64 a4] 24 (0, 0))) ∧ (w'.heap[s_]? = some (.cells #[.int .u32 0, .int .i64 0] 24 (0, 0))) ∧ (w.heap.size ≤ s_) ∧ (w.heap.size ≤ s_) ∧ (aa ≠ s_) ∧ (s_ ≠ aa) ∧ (ad ≠ s_) ∧ (s_ ≠ ad) ∧ (Below w.heap.size w w')) ?_ ?_
           rotate_left
           ·intro hJ5_16
            refine join_ (σ := Nat × Nat) 9 #[true, true, true, true, true, false, false, true, true, true, false, false, false, false, false, true, true, false, false] (fun s_ => [(5, .pointer (some ⟨s_.1, 0, none⟩)), (6, .pointer (some ⟨s_.2, 0, none⟩))]) (fun s_ w' => (w'.cell? ⟨aa, 0, none⟩ = some (.int .u32 aj) ∧ w'.cell? ⟨aa, 1, none⟩ = some (.int .i64 ai)) ∧ (w'.heap[aa]? = some (.cells #[.int .u32 aj, .int .i64 ai] 24 (0, 0))) ∧ (w'.heap[ad]? = some (.cells #[.int .u32 a5, .int .i64 a4] 24 (0, 0))) ∧ (w'.heap[s_.1]? = some (.cells #[.int .u32 0, .int .i64 0] 24 (0, 0))) ∧ (w'.heap[s_.2]? = some (.cells #[.int .u32 0, .int .i64 0] 24 (0, 0))) ∧ (w.heap.size ≤ s_.1) ∧ (w.heap.size ≤ s_.1) ∧ (aa ≠ s_.1) ∧ (s_.1 ≠ aa) ∧ (ad ≠ s_.1) ∧ (s_.1 ≠ ad) ∧ (s_.2 ≠ s_.1) ∧ (s_.1 ≠ s_.2) ∧ (w.heap.size ≤ s_.2) ∧ (w.heap.size ≤ s_.2) ∧ (aa ≠ s_.2) ∧ (s_.2 ≠ aa) ∧ (ad ≠ s_.2) ∧ (s_.2 ≠ ad) ∧ (Below w.heap.size w w')) ?_ ?_
            rotate_left
            ·intro hJ15_16
             refine join_ (σ := Unit) 8 #[true, true, true, true, true, true, true, true, true, true, true, false, false, false, false, false, false, false, false] (fun s_ => [(23, .int .u32 t126), (24, .int .u32 (Go.bits .and .u32 aj t126)), (28, .agg #[.int .u32 (Go.bits .and .u32 aj t126), .int .i64 (wrap64 (ai - 1))])]) (fun s_ w' => (w'.cell? ⟨aa, 0, none⟩ = some (.int .u32 aj) ∧ w'.cell? ⟨aa, 1, none⟩ = some (.int .i64 ai)) ∧ (w'.heap[aa]? = some (.cells #[.int .u32 aj, .int .i64 ai] 24 (0, 0))) ∧ (w'.heap[ad]? = some (.cells #[.int .u32 a5, .int .i64 a4] 24 (0, 0))) ∧ (Below w.heap.size w w')) ?_ ?_
             rotate_left
             ·intro hJ5
              refine join_ (σ := Nat) 10 #[true, true, true, true, true, false, false, true, true, true, false, false, false, false, false, true, false, false, false] (fun s_ => [(5, .pointer (some ⟨s_, 0, none⟩))]) (fun s_ w' => (w'.cell? ⟨aa, 0, none⟩ = some (.int .u32 aj) ∧ w'.cell? ⟨aa, 1, none⟩ = some (.int .i64 ai)) ∧ (w'.heap[aa]? = some (.cells #[.int .u32 aj, .int .i64 ai] 24 (0, 0))) ∧ (w'.heap[ad]? = some (.cells #[.int .u32 a5, .int .i64 a4] 24 (0, 0))) ∧ (w'.heap[s_]? = some (.cells #[.int .u32 0, .int .i64 0] 24 (0, 0))) ∧ (w.heap.size ≤ s_) ∧ (w.heap.size ≤ s_) ∧ (aa ≠ s_) ∧ (s_ ≠ aa) ∧ (ad ≠ s_) ∧ (s_ ≠ ad) ∧ (Below w.heap.size w w')) ?_ ?_
              rotate_left
              ·intro hJ15
               refine join_ (σ := Nat) 10 #[true, true, true, true, true, false, false, true, true, true, false, false, false, false, false, false, true, false, false] (fun s_ => [(6, .pointer (some ⟨s_, 0, none⟩))]) (fun s_ w' => (w'.cell? ⟨aa, 0, none⟩ = some (.int .u32 aj) ∧ w'.cell? ⟨aa, 1, none⟩ = some (.int .i64 ai)) ∧ (w'.heap[aa]? = some (.cells #[.int .u32 aj, .int .i64 ai] 24 (0, 0))) ∧ (w'.heap[ad]? = some (.cells #[.int .u32 a5, .int .i64 a4] 24 (0, 0))) ∧ (w'.heap[s_]? = some (.cells #[.int .u32 0, .int .i64 0] 24 (0, 0))) ∧ (w.heap.size ≤ s_) ∧ (w.heap.size ≤ s_) ∧ (aa ≠ s_) ∧ (s_ ≠ aa) ∧ (ad ≠ s_) ∧ (s_ ≠ ad) ∧ (Below w.heap.size w w')) ?_ ?_
               rotate_left
               ·intro hJ16
                refine three_ (i := 5) (j := 15) (k := 16) (Ni := some 23) (Nj := some 5) (Nk := some 6) #[true, true, true, true, true, true, false, true, true, true, false, false, false, false, false, false, false, false, false] #[true, true, true, true, true, false, false, true, true, true, false, false, false, false, false, true, false, false, false] #[true, true, true, true, true, false, false, true, true, true, false, false, false, false, false, false, true, false, false] rfl rfl rfl rfl rfl rfl (three_of HT_.out (by kernel_rfl)) (by decide) (by decide) (by decide) (fun K hK => ?_) (fun K hK => ?_) (fun K hK => ?_)
                ·skip
                 refine goes_ Tryd.func15 (by kernel_rfl) rfl #[.int .i64 (wrap64 (ai - 1))] (by rfl) rfl rfl (by (try simp only [List.map_toArray, List.map_cons, List.map_nil]); first | done | rfl) ?_
                 with_reducible refine (addr_mask.calls (wrap64 (ai - 1)) t126 _ a9.out).mono ?_
                 rintro e w' ⟨rfl, ⟨nd, rfl⟩⟩
                 refine ⟨_, rfl, ?_⟩
                 refine hK.out _ _ (k4592.b2e ab.out) (fun hHeld => ?_)
                 clear hK K
                 refine norm_ (a' := ?_) ?_ ?_
                 rotate_left
                 ·show Act.put _ (some 23) _ = _
                  simp only [Act.put, List.setIfInBounds_toArray, List.set_cons_zero, List.set_cons_succ, i64_w]
                  rfl
                 refine pure_ (i := 6) (N := some 24) (v := ?_) (a' := ?_) #[true, true, true, true, true, true, true, true, true, true, false, false, false, false, false, false, false, false, false] rfl rfl (any_of HT_.out (by kernel_rfl)) (fun _ _ _ h => h) (Or.inl ⟨by rfl, ?_⟩) ?_ ?_
                 rotate_left
                 ·intro w'
                  go_simp
                  with_reducible rfl
                 rotate_left
                 ·simp only [Act.put, List.setIfInBounds_toArray, List.set_cons_zero, List.set_cons_succ, i64_w]
                  rfl
                 refine pure_ (i := 10) (N := some 28) (v := ?_) (a' := ?_) #[true, true, true, true, true, true, true, true, true, true, true, false, false, false, false, false, false, false, false] rfl rfl (any_of HT_.out (by kernel_rfl)) (fun _ _ _ h => h) (Or.inl ⟨by rfl, ?_⟩) ?_ ?_
                 rotate_left
                 ·intro w'
                  go_simp
                  with_reducible rfl
                 rotate_left
                 ·simp only [Act.put, List.setIfInBounds_toArray, List.set_cons_zero, List.set_cons_succ, i64_w]
                  rfl
                 exact norm_ (by first | (simp only [putAll, Act.put, List.setIfInBounds_toArray, List.set_cons_zero, List.set_cons_succ]; done) | (simp only [putAll, Act.put, List.setIfInBounds_toArray, List.set_cons_zero, List.set_cons_succ]; rfl)) (hJ5 () _ ⟨hHeld, (by (with_reducible repeat (first | refine blk_drewN ?_ _ | refine blk_drew ?_ | refine blk_alloc ?_ _)); exact ab.out), (by (with_reducible repeat (first | refine blk_drewN ?_ _ | refine blk_drew ?_ | refine blk_alloc ?_ _)); exact af.out), (by repeat (first | (with_reducible first | exact HB.out | apply below_alloc | apply pw_below_drewN | apply below_drew1 | refine below_set ?_ ao.out | refine below_set ?_ ar.out) | exact HB.out))⟩)
                ·skip
                 refine box_step ?hg (N := 5) ?hd (cs := #[.int .u32 0, .int .i64 0]) (t := 24) ?hr ?_; (case hd => rfl); (case hg => rfl); (case hr => first | (go_simp; done) | (go_simp; rfl))
                 intro ac hg w17 hbox hb
                 have n0_ := Aside0.mk (blk_below (g := aa) (by (with_reducible repeat (first | refine blk_drewN ?_ _ | refine blk_drew ?_ | refine blk_alloc ?_ _)); exact ab.out) hb)
                 have n1_ := Aside0.mk (blk_below (g := ad) (by (with_reducible repeat (first | refine blk_drewN ?_ _ | refine blk_drew ?_ | refine blk_alloc ?_ _)); exact af.out) hb)
                 have n2_ := Aside0.mk (below_step (by repeat (first | (with_reducible first | exact HB.out | apply below_alloc | apply pw_below_drewN | apply below_drew1 | refine below_set ?_ ao.out | refine below_set ?_ ar.out) | exact HB.out)) hb)
                 have n3_ := Aside0.mk (hbox)
                 have n4_ := Aside0.mk ((by rw [hg]; exact (below_size (by repeat (first | (with_reducible first | exact HB.out | apply below_alloc | apply pw_below_drewN | apply below_drew1 | refine below_set ?_ ao.out | refine below_set ?_ ar.out) | exact HB.out))) : w.heap.size ≤ ac))
                 have n5_ := Aside0.mk ((by rw [hg]; exact (below_size (by repeat (first | (with_reducible first | exact HB.out | apply below_alloc | apply pw_below_drewN | apply below_drew1 | refine below_set ?_ ao.out | refine below_set ?_ ar.out) | exact HB.out))) : w.heap.size ≤ ac))
                 have n6_ := Aside0.mk ((by rw [hg]; exact Nat.ne_of_lt (blk_lt (g := aa) (o := .cells #[.int .u32 aj, .int .i64 ai] 24 (0, 0)) (by (with_reducible repeat (first | refine blk_drewN ?_ _ | refine blk_drew ?_ | refine blk_alloc ?_ _)); exact ab.out)) : aa ≠ ac))
                 have n7_ := Aside0.mk ((by rw [hg]; exact Nat.ne_of_gt (blk_lt (g := aa) (o := .cells #[.int .u32 aj, .int .i64 ai] 24 (0, 0)) (by (with_reducible repeat (first | refine blk_drewN ?_ _ | refine blk_drew ?_ | refine blk_alloc ?_ _)); exact ab.out)) : ac ≠ aa))
                 have n8_ := Aside0.mk ((by rw [hg]; exact Nat.ne_of_lt (blk_lt (g := ad) (o := .cells #[.int .u32 a5, .int .i64 a4] 24 (0, 0)) (by (with_reducible repeat (first | refine blk_drewN ?_ _ | refine blk_drew ?_ | refine blk_alloc ?_ _)); exact af.out)) : ad ≠ ac))
                 have n9_ := Aside0.mk ((by rw [hg]; exact Nat.ne_of_gt (blk_lt (g := ad) (o := .cells #[.int .u32 a5, .int .i64 a4] 24 (0, 0)) (by (with_reducible repeat (first | refine blk_drewN ?_ _ | refine blk_drew ?_ | refine blk_alloc ?_ _)); exact af.out)) : ac ≠ ad))
                 clear ab
                 clear af
                 clear HB
                 have ab := n0_
                 have af := n1_
                 have HB := n2_
                 have au := n3_
                 have a6 := n4_
                 have ax := n5_
                 have ag := n6_
                 have ak := n7_
                 have al := n8_
                 have am := n9_
                 clear n0_ n1_ n2_ n3_ n4_ n5_ n6_ n7_ n8_ n9_
                 clear hb hbox hg
                 refine hK.out _ _ (k4592.b2e ab.out) (fun hHeld => ?_)
                 clear hK K
                 refine norm_ (a' := ?_) ?_ ?_
                 rotate_left
                 ·show Act.put _ (some 5) _ = _
                  simp only [Act.put, List.setIfInBounds_toArray, List.set_cons_zero, List.set_cons_succ, i64_w]
                  rfl
                 exact norm_ (by first | (simp only [putAll, Act.put, List.setIfInBounds_toArray, List.set_cons_zero, List.set_cons_succ]; done) | (simp only [putAll, Act.put, List.setIfInBounds_toArray, List.set_cons_zero, List.set_cons_succ]; rfl)) (hJ15 (ac) _ ⟨hHeld, (by (with_reducible repeat (first | refine blk_drewN ?_ _ | refine blk_drew ?_ | refine blk_alloc ?_ _)); exact ab.out), (by (with_reducible repeat (first | refine blk_drewN ?_ _ | refine blk_drew ?_ | refine blk_alloc ?_ _)); exact af.out), (by (with_reducible repeat (first | refine blk_drewN ?_ _ | refine blk_drew ?_ | refine blk_alloc ?_ _)); exact au.out), a6.out, ax.out, ag.out, ak.out, al.out, am.out, (by repeat (first | (with_reducible first | exact HB.out | apply below_alloc | apply pw_below_drewN | apply below_drew1 | refine below_set ?_ ao.out | refine below_set ?_ ar.out | refine below_set ?_ ax.out) | exact HB.out))⟩)
                ·skip
                 refine box_step ?hg (N := 6) ?hd (cs := #[.int .u32 0, .int .i64 0]) (t := 24) ?hr ?_; (case hd => rfl); (case hg => rfl); (case hr => first | (go_simp; done) | (go_simp; rfl))
                 intro ae hg w17 hbox hb
                 have n0_ := Aside0.mk (blk_below (g := aa) (by (with_reducible repeat (first | refine blk_drewN ?_ _ | refine blk_drew ?_ | refine blk_alloc ?_ _)); exact ab.out) hb)
                 have n1_ := Aside0.mk (blk_below (g := ad) (by (with_reducible repeat (first | refine blk_drewN ?_ _ | refine blk_drew ?_ | refine blk_alloc ?_ _)); exact af.out) hb)
                 have n2_ := Aside0.mk (below_step (by repeat (first | (with_reducible first | exact HB.out | apply below_alloc | apply pw_below_drewN | apply below_drew1 | refine below_set ?_ ao.out | refine below_set ?_ ar.out) | exact HB.out)) hb)
                 have n3_ := Aside0.mk (hbox)
                 have n4_ := Aside0.mk ((by rw [hg]; exact (below_size (by repeat (first | (with_reducible first | exact HB.out | apply below_alloc | apply pw_below_drewN | apply below_drew1 | refine below_set ?_ ao.out | refine below_set ?_ ar.out) | exact HB.out))) : w.heap.size ≤ ae))
                 have n5_ := Aside0.mk ((by rw [hg]; exact (below_size (by repeat (first | (with_reducible first | exact HB.out | apply below_alloc | apply pw_below_drewN | apply below_drew1 | refine below_set ?_ ao.out | refine below_set ?_ ar.out) | exact HB.out))) : w.heap.size ≤ ae))
                 have n6_ := Aside0.mk ((by rw [hg]; exact Nat.ne_of_lt (blk_lt (g := aa) (o := .cells #[.int .u32 aj, .int .i64 ai] 24 (0, 0)) (by (with_reducible repeat (first | refine blk_drewN ?_ _ | refine blk_drew ?_ | refine blk_alloc ?_ _)); exact ab.out)) : aa ≠ ae))
                 have n7_ := Aside0.mk ((by rw [hg]; exact Nat.ne_of_gt (blk_lt (g := aa) (o := .cells #[.int .u32 aj, .int .i64 ai] 24 (0, 0)) (by (with_reducible repeat (first | refine blk_drewN ?_ _ | refine blk_drew ?_ | refine blk_alloc ?_ _)); exact ab.out)) : ae ≠ aa))
                 have n8_ := Aside0.mk ((by rw [hg]; exact Nat.ne_of_lt (blk_lt (g := ad) (o := .cells #[.int .u32 a5, .int .i64 a4] 24 (0, 0)) (by (with_reducible repeat (first | refine blk_drewN ?_ _ | refine blk_drew ?_ | refine blk_alloc ?_ _)); exact af.out)) : ad ≠ ae))
                 have n9_ := Aside0.mk ((by rw [hg]; exact Nat.ne_of_gt (blk_lt (g := ad) (o := .cells #[.int .u32 a5, .int .i64 a4] 24 (0, 0)) (by (with_reducible repeat (first | refine blk_drewN ?_ _ | refine blk_drew ?_ | refine blk_alloc ?_ _)); exact af.out)) : ae ≠ ad))
                 clear ab
                 clear af
                 clear HB
                 have ab := n0_
                 have af := n1_
                 have HB := n2_
                 have ay := n3_
                 have a7 := n4_
                 have az := n5_
                 have ah := n6_
                 have an := n7_
                 have ap := n8_
                 have aq := n9_
                 clear n0_ n1_ n2_ n3_ n4_ n5_ n6_ n7_ n8_ n9_
                 clear hb hbox hg
                 refine hK.out _ _ (k4592.b2e ab.out) (fun hHeld => ?_)
                 clear hK K
                 refine norm_ (a' := ?_) ?_ ?_
                 rotate_left
                 ·show Act.put _ (some 6) _ = _
                  simp only [Act.put, List.setIfInBounds_toArray, List.set_cons_zero, List.set_cons_succ, i64_w]
                  rfl
                 exact norm_ (by first | (simp only [putAll, Act.put, List.setIfInBounds_toArray, List.set_cons_zero, List.set_cons_succ]; done) | (simp only [putAll, Act.put, List.setIfInBounds_toArray, List.set_cons_zero, List.set_cons_succ]; rfl)) (hJ16 (ae) _ ⟨hHeld, (by (with_reducible repeat (first | refine blk_drewN ?_ _ | refine blk_drew ?_ | refine blk_alloc ?_ _)); exact ab.out), (by (with_reducible repeat (first | refine blk_drewN ?_ _ | refine blk_drew ?_ | refine blk_alloc ?_ _)); exact af.out), (by (with_reducible repeat (first | refine blk_drewN ?_ _ | refine blk_drew ?_ | refine blk_alloc ?_ _)); exact ay.out), a7.out, az.out, ah.out, an.out, ap.out, aq.out, (by repeat (first | (with_reducible first | exact HB.out | apply below_alloc | apply pw_below_drewN | apply below_drew1 | refine below_set ?_ ao.out | refine below_set ?_ ar.out | refine below_set ?_ az.out) | exact HB.out))⟩)
               ·skip
                rintro ae w18 ⟨hS_, h0_, h1_, h2_, h3_, h4_, h5_, h6_, h7_, h8_, h9_⟩
                have n0_ : Aside0 (w18.heap[aa]? = some (.cells #[.int .u32 aj, .int .i64 ai] 24 (0, 0))) := ⟨h0_⟩
                have n1_ : Aside0 (w18.heap[ad]? = some (.cells #[.int .u32 a5, .int .i64 a4] 24 (0, 0))) := ⟨h1_⟩
                have n2_ : Aside0 (w18.heap[ae]? = some (.cells #[.int .u32 0, .int .i64 0] 24 (0, 0))) := ⟨h2_⟩
                have n3_ : Aside0 (w.heap.size ≤ ae) := ⟨h3_⟩
                have n4_ : Aside0 (w.heap.size ≤ ae) := ⟨h4_⟩
                have n5_ : Aside0 (aa ≠ ae) := ⟨h5_⟩
                have n6_ : Aside0 (ae ≠ aa) := ⟨h6_⟩
                have n7_ : Aside0 (ad ≠ ae) := ⟨h7_⟩
                have n8_ : Aside0 (ae ≠ ad) := ⟨h8_⟩
                have n9_ : Aside0 (Below w.heap.size w w18) := ⟨h9_⟩
                clear ab
                clear af
                clear HB
                clear h0_ h1_ h2_ h3_ h4_ h5_ h6_ h7_ h8_ h9_
                have ab := n0_
                have af := n1_
                have ay := n2_
                have a7 := n3_
                have az := n4_
                have ah := n5_
                have an := n6_
                have ap := n7_
                have aq := n8_
                have HB := n9_
                clear n0_ n1_ n2_ n3_ n4_ n5_ n6_ n7_ n8_ n9_
                have hHeld : w18.cell? ⟨aa, 0, none⟩ = some (.int .u32 aj) ∧ w18.cell? ⟨aa, 1, none⟩ = some (.int .i64 ai) := hS_
                refine norm_ (a' := ?_) ?_ ?_
                rotate_left
                ·simp only [putAll, Act.put, List.setIfInBounds_toArray, List.set_cons_zero, List.set_cons_succ]
                 rfl
                refine two_ (i := 5) (j := 15) (Ni := some 23) (Nj := some 5) #[true, true, true, true, true, true, false, true, true, true, false, false, false, false, false, false, true, false, false] #[true, true, true, true, true, false, false, true, true, true, false, false, false, false, false, true, true, false, false] rfl rfl rfl rfl (two_of HT_.out (by kernel_rfl)) (by decide) (by decide) (fun K hK => ?_) (fun K hK => ?_)
                ·skip
                 refine goes_ Tryd.func15 (by kernel_rfl) rfl #[.int .i64 (wrap64 (ai - 1))] (by rfl) rfl rfl (by (try simp only [List.map_toArray, List.map_cons, List.map_nil]); first | done | rfl) ?_
                 with_reducible refine (addr_mask.calls (wrap64 (ai - 1)) t126 _ a9.out).mono ?_
                 rintro e w' ⟨rfl, ⟨nd, rfl⟩⟩
                 refine ⟨_, rfl, ?_⟩
                 refine hK.out _ _ (k4592.b2e ab.out) (fun hHeld => ?_)
                 clear hK K
                 refine norm_ (a' := ?_) ?_ ?_
                 rotate_left
                 ·show Act.put _ (some 23) _ = _
                  simp only [Act.put, List.setIfInBounds_toArray, List.set_cons_zero, List.set_cons_succ, i64_w]
                  rfl
                 refine pure_ (i := 6) (N := some 24) (v := ?_) (a' := ?_) #[true, true, true, true, true, true, true, true, true, true, false, false, false, false, false, false, true, false, false] rfl rfl (any_of HT_.out (by kernel_rfl)) (fun _ _ _ h => h) (Or.inl ⟨by rfl, ?_⟩) ?_ ?_
                 rotate_left
                 ·intro w'
                  go_simp
                  with_reducible rfl
                 rotate_left
                 ·simp only [Act.put, List.setIfInBounds_toArray, List.set_cons_zero, List.set_cons_succ, i64_w]
                  rfl
                 refine pure_ (i := 10) (N := some 28) (v := ?_) (a' := ?_) #[true, true, true, true, true, true, true, true, true, true, true, false, false, false, false, false, true, false, false] rfl rfl (any_of HT_.out (by kernel_rfl)) (fun _ _ _ h => h) (Or.inl ⟨by rfl, ?_⟩) ?_ ?_
                 rotate_left
                 ·intro w'
                  go_simp
                  with_reducible rfl
                 rotate_left
                 ·simp only [Act.put, List.setIfInBounds_toArray, List.set_cons_zero, List.set_cons_succ, i64_w]
                  rfl
                 exact norm_ (by first | (simp only [putAll, Act.put, List.setIfInBounds_toArray, List.set_cons_zero, List.set_cons_succ]; done) | (simp only [putAll, Act.put, List.setIfInBounds_toArray, List.set_cons_zero, List.set_cons_succ]; rfl)) (hJ5_16 (ae) _ ⟨hHeld, (by (with_reducible repeat (first | refine blk_drewN ?_ _ | refine blk_drew ?_ | refine blk_alloc ?_ _)); exact ab.out), (by (with_reducible repeat (first | refine blk_drewN ?_ _ | refine blk_drew ?_ | refine blk_alloc ?_ _)); exact af.out), (by (with_reducible repeat (first | refine blk_drewN ?_ _ | refine blk_drew ?_ | refine blk_alloc ?_ _)); exact ay.out), a7.out, az.out, ah.out, an.out, ap.out, aq.out, (by repeat (first | (with_reducible first | exact HB.out | apply below_alloc | apply pw_below_drewN | apply below_drew1 | refine below_set ?_ ao.out | refine below_set ?_ ar.out | refine below_set ?_ az.out) | exact HB.out))⟩)
                ·skip
                 refine box_step ?hg (N := 5) ?hd (cs := #[.int .u32 0, .int .i64 0]) (t := 24) ?hr ?_; (case hd => rfl); (case hg => rfl); (case hr => first | (go_simp; done) | (go_simp; rfl))
                 intro ac hg w19 hbox hb
                 have n0_ := Aside0.mk (blk_below (g := aa) (by (with_reducible repeat (first | refine blk_drewN ?_ _ | refine blk_drew ?_ | refine blk_alloc ?_ _)); exact ab.out) hb)
                 have n1_ := Aside0.mk (blk_below (g := ad) (by (with_reducible repeat (first | refine blk_drewN ?_ _ | refine blk_drew ?_ | refine blk_alloc ?_ _)); exact af.out) hb)
                 have n2_ := Aside0.mk (blk_below (g := ae) (by (with_reducible repeat (first | refine blk_drewN ?_ _ | refine blk_drew ?_ | refine blk_alloc ?_ _)); exact ay.out) hb)
                 have n3_ := Aside0.mk (below_step (by repeat (first | (with_reducible first | exact HB.out | apply below_alloc | apply pw_below_drewN | apply below_drew1 | refine below_set ?_ ao.out | refine below_set ?_ ar.out | refine below_set ?_ az.out) | exact HB.out)) hb)
                 have n4_ := Aside0.mk (hbox)
                 have n5_ := Aside0.mk ((by rw [hg]; exact (below_size (by repeat (first | (with_reducible first | exact HB.out | apply below_alloc | apply pw_below_drewN | apply below_drew1 | refine below_set ?_ ao.out | refine below_set ?_ ar.out | refine below_set ?_ az.out) | exact HB.out))) : w.heap.size ≤ ac))
                 have n6_ := Aside0.mk ((by rw [hg]; exact (below_size (by repeat (first | (with_reducible first | exact HB.out | apply below_alloc | apply pw_below_drewN | apply below_drew1 | refine below_set ?_ ao.out | refine below_set ?_ ar.out | refine below_set ?_ az.out) | exact HB.out))) : w.heap.size ≤ ac))
                 have n7_ := Aside0.mk ((by rw [hg]; exact Nat.ne_of_lt (blk_lt (g := aa) (o := .cells #[.int .u32 aj, .int .i64 ai] 24 (0, 0)) (by (with_reducible repeat (first | refine blk_drewN ?_ _ | refine blk_drew ?_ | refine blk_alloc ?_ _)); exact ab.out)) : aa ≠ ac))
                 have n8_ := Aside0.mk ((by rw [hg]; exact Nat.ne_of_gt (blk_lt (g := aa) (o := .cells #[.int .u32 aj, .int .i64 ai] 24 (0, 0)) (by (with_reducible repeat (first | refine blk_drewN ?_ _ | refine blk_drew ?_ | refine blk_alloc ?_ _)); exact ab.out)) : ac ≠ aa))
                 have n9_ := Aside0.mk ((by rw [hg]; exact Nat.ne_of_lt (blk_lt (g := ad) (o := .cells #[.int .u32 a5, .int .i64 a4] 24 (0, 0)) (by (with_reducible repeat (first | refine blk_drewN ?_ _ | refine blk_drew ?_ | refine blk_alloc ?_ _)); exact af.out)) : ad ≠ ac))
                 have n10_ := Aside0.mk ((by rw [hg]; exact Nat.ne_of_gt (blk_lt (g := ad) (o := .cells #[.int .u32 a5, .int .i64 a4] 24 (0, 0)) (by (with_reducible repeat (first | refine blk_drewN ?_ _ | refine blk_drew ?_ | refine blk_alloc ?_ _)); exact af.out)) : ac ≠ ad))
                 have n11_ := Aside0.mk ((by rw [hg]; exact Nat.ne_of_lt (blk_lt (g := ae) (o := .cells #[.int .u32 0, .int .i64 0] 24 (0, 0)) (by (with_reducible repeat (first | refine blk_drewN ?_ _ | refine blk_drew ?_ | refine blk_alloc ?_ _)); exact ay.out)) : ae ≠ ac))
                 have n12_ := Aside0.mk ((by rw [hg]; exact Nat.ne_of_gt (blk_lt (g := ae) (o := .cells #[.int .u32 0, .int .i64 0] 24 (0, 0)) (by (with_reducible repeat (first | refine blk_drewN ?_ _ | refine blk_drew ?_ | refine blk_alloc ?_ _)); exact ay.out)) : ac ≠ ae))
                 clear ab
                 clear af
                 clear ay
                 clear HB
                 have ab := n0_
                 have af := n1_
                 have ay := n2_
                 have HB := n3_
                 have au := n4_
                 have a6 := n5_
                 have ax := n6_
                 have ag := n7_
                 have ak := n8_
                 have al := n9_
                 have am := n10_
                 have av := n11_
                 have aw := n12_
                 clear n0_ n1_ n2_ n3_ n4_ n5_ n6_ n7_ n8_ n9_ n10_ n11_ n12_
                 clear hb hbox hg
                 refine hK.out _ _ (k4592.b2e ab.out) (fun hHeld => ?_)
                 clear hK K
                 refine norm_ (a' := ?_) ?_ ?_
                 rotate_left
                 ·show Act.put _ (some 5) _ = _
                  simp only [Act.put, List.setIfInBounds_toArray, List.set_cons_zero, List.set_cons_succ, i64_w]
                  rfl
                 exact norm_ (by first | (simp only [putAll, Act.put, List.setIfInBounds_toArray, List.set_cons_zero, List.set_cons_succ]; done) | (simp only [putAll, Act.put, List.setIfInBounds_toArray, List.set_cons_zero, List.set_cons_succ]; rfl)) (hJ15_16 (ac, ae) _ ⟨hHeld, (by (with_reducible repeat (first | refine blk_drewN ?_ _ | refine blk_drew ?_ | refine blk_alloc ?_ _)); exact ab.out), (by (with_reducible repeat (first | refine blk_drewN ?_ _ | refine blk_drew ?_ | refine blk_alloc ?_ _)); exact af.out), (by (with_reducible repeat (first | refine blk_drewN ?_ _ | refine blk_drew ?_ | refine blk_alloc ?_ _)); exact au.out), (by (with_reducible repeat (first | refine blk_drewN ?_ _ | refine blk_drew ?_ | refine blk_alloc ?_ _)); exact ay.out), a6.out, ax.out, ag.out, ak.out, al.out, am.out, av.out, aw.out, a7.out, az.out, ah.out, an.out, ap.out, aq.out, (by repeat (first | (with_reducible first | exact HB.out | apply below_alloc | apply pw_below_drewN | apply below_drew1 | refine below_set ?_ ao.out | refine below_set ?_ ar.out | refine below_set ?_ az.out | refine below_set ?_ ax.out) | exact HB.out))⟩)
              ·skip
               rintro ac w18 ⟨hS_, h0_, h1_, h2_, h3_, h4_, h5_, h6_, h7_, h8_, h9_⟩
               have n0_ : Aside0 (w18.heap[aa]? = some (.cells #[.int .u32 aj, .int .i64 ai] 24 (0, 0))) := ⟨h0_⟩
               have n1_ : Aside0 (w18.heap[ad]? = some (.cells #[.int .u32 a5, .int .i64 a4] 24 (0, 0))) := ⟨h1_⟩
               have n2_ : Aside0 (w18.heap[ac]? = some (.cells #[.int .u32 0, .int .i64 0] 24 (0, 0))) := ⟨h2_⟩
               have n3_ : Aside0 (w.heap.size ≤ ac) := ⟨h3_⟩
               have n4_ : Aside0 (w.heap.size ≤ ac) := ⟨h4_⟩
               have n5_ : Aside0 (aa ≠ ac) := ⟨h5_⟩
               have n6_ : Aside0 (ac ≠ aa) := ⟨h6_⟩
               have n7_ : Aside0 (ad ≠ ac) := ⟨h7_⟩
               have n8_ : Aside0 (ac ≠ ad) := ⟨h8_⟩
               have n9_ : Aside0 (Below w.heap.size w w18) := ⟨h9_⟩
               clear ab
               clear af
               clear HB
               clear h0_ h1_ h2_ h3_ h4_ h5_ h6_ h7_ h8_ h9_
               have ab := n0_
               have af := n1_
               have au := n2_
               have a6 := n3_
               have ax := n4_
               have ag := n5_
               have ak := n6_
               have al := n7_
               have am := n8_
               have HB := n9_
               clear n0_ n1_ n2_ n3_ n4_ n5_ n6_ n7_ n8_ n9_
               have hHeld : w18.cell? ⟨aa, 0, none⟩ = some (.int .u32 aj) ∧ w18.cell? ⟨aa, 1, none⟩ = some (.int .i64 ai) := hS_
               refine norm_ (a' := ?_) ?_ ?_
               rotate_left
               ·simp only [putAll, Act.put, List.setIfInBounds_toArray, List.set_cons_zero, List.set_cons_succ]
                rfl
               refine two_ (i := 5) (j := 16) (Ni := some 23) (Nj := some 6) #[true, true, true, true, true, true, false, true, true, true, false, false, false, false, false, true, false, false, false] #[true, true, true, true, true, false, false, true, true, true, false, false, false, false, false, true, true, false, false] rfl rfl rfl rfl (two_of HT_.out (by kernel_rfl)) (by decide) (by decide) (fun K hK => ?_) (fun K hK => ?_)
               ·skip
                refine goes_ Tryd.func15 (by kernel_rfl) rfl #[.int .i64 (wrap64 (ai - 1))] (by rfl) rfl rfl (by (try simp only [List.map_toArray, List.map_cons, List.map_nil]); first | done | rfl) ?_
                with_reducible refine (addr_mask.calls (wrap64 (ai - 1)) t126 _ a9.out).mono ?_
                rintro e w' ⟨rfl, ⟨nd, rfl⟩⟩
                refine ⟨_, rfl, ?_⟩
                refine hK.out _ _ (k4592.b2e ab.out) (fun hHeld => ?_)
                clear hK K
                refine norm_ (a' := ?_) ?_ ?_
                rotate_left
                ·show Act.put _ (some 23) _ = _
                 simp only [Act.put, List.setIfInBounds_toArray, List.set_cons_zero, List.set_cons_succ, i64_w]
                 rfl
                refine pure_ (i := 6) (N := some 24) (v := ?_) (a' := ?_) #[true, true, true, true, true, true, true, true, true, true, false, false, false, false, false, true, false, false, false] rfl rfl (any_of HT_.out (by kernel_rfl)) (fun _ _ _ h => h) (Or.inl ⟨by rfl, ?_⟩) ?_ ?_
                rotate_left
                ·intro w'
                 go_simp
                 with_reducible rfl
                rotate_left
                ·simp only [Act.put, List.setIfInBounds_toArray, List.set_cons_zero, List.set_cons_succ, i64_w]
                 rfl
                refine pure_ (i := 10) (N := some 28) (v := ?_) (a' := ?_) #[true, true, true, true, true, true, true, true, true, true, true, false, false, false, false, true, false, false, false] rfl rfl (any_of HT_.out (by kernel_rfl)) (fun _ _ _ h => h) (Or.inl ⟨by rfl, ?_⟩) ?_ ?_
                rotate_left
                ·intro w'
                 go_simp
                 with_reducible rfl
                rotate_left
                ·simp only [Act.put, List.setIfInBounds_toArray, List.set_cons_zero, List.set_cons_succ, i64_w]
                 rfl
                exact norm_ (by first | (simp only [putAll, Act.put, List.setIfInBounds_toArray, List.set_cons_zero, List.set_cons_succ]; done) | (simp only [putAll, Act.put, List.setIfInBounds_toArray, List.set_cons_zero, List.set_cons_succ]; rfl)) (hJ5_15 (ac) _ ⟨hHeld, (by (with_reducible repeat (first | refine blk_drewN ?_ _ | refine blk_drew ?_ | refine blk_alloc ?_ _)); exact ab.out), (by (with_reducible repeat (first | refine blk_drewN ?_ _ | refine blk_drew ?_ | refine blk_alloc ?_ _)); exact af.out), (by (with_reducible repeat (first | refine blk_drewN ?_ _ | refine blk_drew ?_ | refine blk_alloc ?_ _)); exact au.out), a6.out, ax.out, ag.out, ak.out, al.out, am.out, (by repeat (first | (with_reducible first | exact HB.out | apply below_alloc | apply pw_below_drewN | apply below_drew1 | refine below_set ?_ ao.out | refine below_set ?_ ar.out | refine below_set ?_ ax.out) | exact HB.out))⟩)
               ·skip
                refine box_step ?hg (N := 6) ?hd (cs := #[.int .u32 0, .int .i64 0]) (t := 24) ?hr ?_; (case hd => rfl); (case hg => rfl); (case hr => first | (go_simp; done) | (go_simp; rfl))
                intro ae hg w19 hbox hb
                have n0_ := Aside0.mk (blk_below (g := aa) (by (with_reducible repeat (first | refine blk_drewN ?_ _ | refine blk_drew ?_ | refine blk_alloc ?_ _)); exact ab.out) hb)
                have n1_ := Aside0.mk (blk_below (g := ad) (by (with_reducible repeat (first | refine blk_drewN ?_ _ | refine blk_drew ?_ | refine blk_alloc ?_ _)); exact af.out) hb)
                have n2_ := Aside0.mk (blk_below (g := ac) (by (with_reducible repeat (first | refine blk_drewN ?_ _ | refine blk_drew ?_ | refine blk_alloc ?_ _)); exact au.out) hb)
                have n3_ := Aside0.mk (below_step (by repeat (first | (with_reducible first | exact HB.out | apply below_alloc | apply pw_below_drewN | apply below_drew1 | refine below_set ?_ ao.out | refine below_set ?_ ar.out | refine below_set ?_ ax.out) | exact HB.out)) hb)
                have n4_ := Aside0.mk (hbox)
                have n5_ := Aside0.mk ((by rw [hg]; exact (below_size (by repeat (first | (with_reducible first | exact HB.out | apply below_alloc | apply pw_below_drewN | apply below_drew1 | refine below_set ?_ ao.out | refine below_set ?_ ar.out | refine below_set ?_ ax.out) | exact HB.out))) : w.heap.size ≤ ae))
                have n6_ := Aside0.mk ((by rw [hg]; exact (below_size (by repeat (first | (with_reducible first | exact HB.out | apply below_alloc | apply pw_below_drewN | apply below_drew1 | refine below_set ?_ ao.out | refine below_set ?_ ar.out | refine below_set ?_ ax.out) | exact HB.out))) : w.heap.size ≤ ae))
                have n7_ := Aside0.mk ((by rw [hg]; exact Nat.ne_of_lt (blk_lt (g := aa) (o := .cells #[.int .u32 aj, .int .i64 ai] 24 (0, 0)) (by (with_reducible repeat (first | refine blk_drewN ?_ _ | refine blk_drew ?_ | refine blk_alloc ?_ _)); exact ab.out)) : aa ≠ ae))
                have n8_ := Aside0.mk ((by rw [hg]; exact Nat.ne_of_gt (blk_lt (g := aa) (o := .cells #[.int .u32 aj, .int .i64 ai] 24 (0, 0)) (by (with_reducible repeat (first | refine blk_drewN ?_ _ | refine blk_drew ?_ | refine blk_alloc ?_ _)); exact ab.out)) : ae ≠ aa))
                have n9_ := Aside0.mk ((by rw [hg]; exact Nat.ne_of_lt (blk_lt (g := ad) (o := .cells #[.int .u32 a5, .int .i64 a4] 24 (0, 0)) (by (with_reducible repeat (first | refine blk_drewN ?_ _ | refine blk_drew ?_ | refine blk_alloc ?_ _)); exact af.out)) : ad ≠ ae))
                have n10_ := Aside0.mk ((by rw [hg]; exact Nat.ne_of_gt (blk_lt (g := ad) (o := .cells #[.int .u32 a5, .int .i64 a4] 24 (0, 0)) (by (with_reducible repeat (first | refine blk_drewN ?_ _ | refine blk_drew ?_ | refine blk_alloc ?_ _)); exact af.out)) : ae ≠ ad))
                have n11_ := Aside0.mk ((by rw [hg]; exact Nat.ne_of_lt (blk_lt (g := ac) (o := .cells #[.int .u32 0, .int .i64 0] 24 (0, 0)) (by (with_reducible repeat (first | refine blk_drewN ?_ _ | refine blk_drew ?_ | refine blk_alloc ?_ _)); exact au.out)) : ac ≠ ae))
                have n12_ := Aside0.mk ((by rw [hg]; exact Nat.ne_of_gt (blk_lt (g := ac) (o := .cells #[.int .u32 0, .int .i64 0] 24 (0, 0)) (by (with_reducible repeat (first | refine blk_drewN ?_ _ | refine blk_drew ?_ | refine blk_alloc ?_ _)); exact au.out)) : ae ≠ ac))
                clear ab
                clear af
                clear au
                clear HB
                have ab := n0_
                have af := n1_
                have au := n2_
                have HB := n3_
                have ay := n4_
                have a7 := n5_
                have az := n6_
                have ah := n7_
                have an := n8_
                have ap := n9_
                have aq := n10_
                have aw := n11_
                have av := n12_
                clear n0_ n1_ n2_ n3_ n4_ n5_ n6_ n7_ n8_ n9_ n10_ n11_ n12_
                clear hb hbox hg
                refine hK.out _ _ (k4592.b2e ab.out) (fun hHeld => ?_)
                clear hK K
                refine norm_ (a' := ?_) ?_ ?_
                rotate_left
                ·show Act.put _ (some 6) _ = _
                 simp only [Act.put, List.setIfInBounds_toArray, List.set_cons_zero, List.set_cons_succ, i64_w]
                 rfl
                exact norm_ (by first | (simp only [putAll, Act.put, List.setIfInBounds_toArray, List.set_cons_zero, List.set_cons_succ]; done) | (simp only [putAll, Act.put, List.setIfInBounds_toArray, List.set_cons_zero, List.set_cons_succ]; rfl)) (hJ15_16 (ac, ae) _ ⟨hHeld, (by (with_reducible repeat (first | refine blk_drewN ?_ _ | refine blk_drew ?_ | refine blk_alloc ?_ _)); exact ab.out), (by (with_reducible repeat (first | refine blk_drewN ?_ _ | refine blk_drew ?_ | refine blk_alloc ?_ _)); exact af.out), (by (with_reducible repeat (first | refine blk_drewN ?_ _ | refine blk_drew ?_ | refine blk_alloc ?_ _)); exact au.out), (by (with_reducible repeat (first | refine blk_drewN ?_ _ | refine blk_drew ?_ | refine blk_alloc ?_ _)); exact ay.out), a6.out, ax.out, ag.out, ak.out, al.out, am.out, av.out, aw.out, a7.out, az.out, ah.out, an.out, ap.out, aq.out, (by repeat (first | (with_reducible first | exact HB.out | apply below_alloc | apply pw_below_drewN | apply below_drew1 | refine below_set ?_ ao.out | refine below_set ?_ ar.out | refine below_set ?_ ax.out | refine below_set ?_ az.out) | exact HB.out))⟩)
             ·skip
              rintro _ w17 ⟨hS_, h0_, h1_, h2_⟩
              have n0_ : Aside0 (w17.heap[aa]? = some (.cells #[.int .u32 aj, .int .i64 ai] 24 (0, 0))) := ⟨h0_⟩
              have n1_ : Aside0 (w17.heap[ad]? = some (.cells #[.int .u32 a5, .int .i64 a4] 24 (0, 0))) := ⟨h1_⟩
              have n2_ : Aside0 (Below w.heap.size w w17) := ⟨h2_⟩
              clear ab
              clear af
              clear HB
              clear h0_ h1_ h2_
              have ab := n0_
              have af := n1_
              have HB := n2_
              clear n0_ n1_ n2_
              have hHeld : w17.cell? ⟨aa, 0, none⟩ = some (.int .u32 aj) ∧ w17.cell? ⟨aa, 1, none⟩ = some (.int .i64 ai) := hS_
              refine norm_ (a' := ?_) ?_ ?_
              rotate_left
              ·simp only [putAll, Act.put, List.setIfInBounds_toArray, List.set_cons_zero, List.set_cons_succ]
               rfl
              refine three_ (i := 11) (j := 15) (k := 16) (Ni := some 29) (Nj := some 5) (Nk := some 6) #[true, true, true, true, true, true, true, true, true, true, true, true, false, false, false, false, false, false, false] #[true, true, true, true, true, true, true, true, true, true, true, false, false, false, false, true, false, false, false] #[true, true, true, true, true, true, true, true, true, true, true, false, false, false, false, false, true, false, false] rfl rfl rfl rfl rfl rfl (three_of HT_.out (by kernel_rfl)) (by decide) (by decide) (by decide) (fun K hK => ?_) (fun K hK => ?_) (fun K hK => ?_)
              ·skip
               refine goes_ Tryd.func43 (by kernel_rfl) rfl #[.agg #[.int .u32 (Go.bits .and .u32 aj t126), .int .i64 (wrap64 (ai - 1))]] (by rfl) rfl rfl (by (try simp only [List.map_toArray, List.map_cons, List.map_nil]); first | done | rfl) ?_
               with_reducible refine (addr_halves.calls (Go.bits .and .u32 aj t126) (wrap64 (ai - 1)) t127 t128 t129 t130 _ ba.out).mono ?_
               rintro e w18 ⟨rfl, hb⟩
               refine ⟨_, rfl, ?_⟩
               replace ab := Aside0.mk (blk_below (g := aa) (by (with_reducible repeat (first | refine blk_drewN ?_ _ | refine blk_drew ?_ | refine blk_alloc ?_ _)); exact ab.out) hb)
               replace af := Aside0.mk (blk_below (g := ad) (by (with_reducible repeat (first | refine blk_drewN ?_ _ | refine blk_drew ?_ | refine blk_alloc ?_ _)); exact af.out) hb)
               replace HB := Aside0.mk (below_step (by repeat (first | (with_reducible first | exact HB.out | apply below_alloc | apply pw_below_drewN | apply below_drew1 | refine below_set ?_ ao.out | refine below_set ?_ ar.out) | exact HB.out)) hb)
               (try clear hb)
               (try clear hb2)
               (try clear hk)
               (try clear hi)
               refine hK.out _ _ (k4592.b2e ab.out) (fun hHeld => ?_)
               clear hK K
               refine norm_ (a' := ?_) ?_ ?_
               rotate_left
               ·show Act.put _ (some 29) _ = _
                simp only [Act.put, List.setIfInBounds_toArray, List.set_cons_zero, List.set_cons_succ, i64_w]
                rfl
               refine pure_ (i := 12) (N := some 17) (v := ?_) (a' := ?_) #[true, true, true, true, true, true, true, true, true, true, true, true, true, false, false, false, false, false, false] rfl rfl (any_of HT_.out (by kernel_rfl)) (fun _ _ _ h => h) (Or.inl ⟨by rfl, ?_⟩) ?_ ?_
               rotate_left
               ·intro w'
                go_simp
                with_reducible rfl
               rotate_left
               ·simp only [Act.put, List.setIfInBounds_toArray, List.set_cons_zero, List.set_cons_succ, i64_w]
                rfl
               refine pure_ (i := 13) (N := some 30) (v := ?_) (a' := ?_) #[true, true, true, true, true, true, true, true, true, true, true, true, true, true, false, false, false, false, false] rfl rfl (any_of HT_.out (by kernel_rfl)) (fun _ _ _ h => h) (Or.inl ⟨by rfl, ?_⟩) ?_ ?_
               rotate_left
               ·intro w'
                go_simp
                with_reducible rfl
               rotate_left
               ·simp only [Act.put, List.setIfInBounds_toArray, List.set_cons_zero, List.set_cons_succ, i64_w]
                rfl
               refine pure_ (i := 14) (N := some 31) (v := ?_) (a' := ?_) #[true, true, true, true, true, true, true, true, true, true, true, true, true, true, true, false, false, false, false] rfl rfl (any_of HT_.out (by kernel_rfl)) (fun _ _ _ h => h) (Or.inl ⟨by rfl, ?_⟩) ?_ ?_
               rotate_left
               ·intro w'
                go_simp
                with_reducible rfl
               rotate_left
               ·simp only [Act.put, List.setIfInBounds_toArray, List.set_cons_zero, List.set_cons_succ, i64_w]
                rfl
               exact norm_ (by first | (simp only [putAll, Act.put, List.setIfInBounds_toArray, List.set_cons_zero, List.set_cons_succ]; done) | (simp only [putAll, Act.put, List.setIfInBounds_toArray, List.set_cons_zero, List.set_cons_succ]; rfl)) (hJ5_11 () _ ⟨hHeld, (by (with_reducible repeat (first | refine blk_drewN ?_ _ | refine blk_drew ?_ | refine blk_alloc ?_ _)); exact ab.out), (by (with_reducible repeat (first | refine blk_drewN ?_ _ | refine blk_drew ?_ | refine blk_alloc ?_ _)); exact af.out), (by repeat (first | (with_reducible first | exact HB.out | apply below_alloc | apply pw_below_drewN | apply below_drew1 | refine below_set ?_ ao.out | refine below_set ?_ ar.out) | exact HB.out))⟩)
              ·skip
               refine box_step ?hg (N := 5) ?hd (cs := #[.int .u32 0, .int .i64 0]) (t := 24) ?hr ?_; (case hd => rfl); (case hg => rfl); (case hr => first | (go_simp; done) | (go_simp; rfl))
               intro ac hg w18 hbox hb
               have n0_ := Aside0.mk (blk_below (g := aa) (by (with_reducible repeat (first | refine blk_drewN ?_ _ | refine blk_drew ?_ | refine blk_alloc ?_ _)); exact ab.out) hb)
               have n1_ := Aside0.mk (blk_below (g := ad) (by (with_reducible repeat (first | refine blk_drewN ?_ _ | refine blk_drew ?_ | refine blk_alloc ?_ _)); exact af.out) hb)
               have n2_ := Aside0.mk (below_step (by repeat (first | (with_reducible first | exact HB.out | apply below_alloc | apply pw_below_drewN | apply below_drew1 | refine below_set ?_ ao.out | refine below_set ?_ ar.out) | exact HB.out)) hb)
               have n3_ := Aside0.mk (hbox)
               have n4_ := Aside0.mk ((by rw [hg]; exact (below_size (by repeat (first | (with_reducible first | exact HB.out | apply below_alloc | apply pw_below_drewN | apply below_drew1 | refine below_set ?_ ao.out | refine below_set ?_ ar.out) | exact HB.out))) : w.heap.size ≤ ac))
               have n5_ := Aside0.mk ((by rw [hg]; exact (below_size (by repeat (first | (with_reducible first | exact HB.out | apply below_alloc | apply pw_below_drewN | apply below_drew1 | refine below_set ?_ ao.out | refine below_set ?_ ar.out) | exact HB.out))) : w.heap.size ≤ ac))
               have n6_ := Aside0.mk ((by rw [hg]; exact Nat.ne_of_lt (blk_lt (g := aa) (o := .cells #[.int .u32 aj, .int .i64 ai] 24 (0, 0)) (by (with_reducible repeat (first | refine blk_drewN ?_ _ | refine blk_drew ?_ | refine blk_alloc ?_ _)); exact ab.out)) : aa ≠ ac))
               have n7_ := Aside0.mk ((by rw [hg]; exact Nat.ne_of_gt (blk_lt (g := aa) (o := .cells #[.int .u32 aj, .int .i64 ai] 24 (0, 0)) (by (with_reducible repeat (first | refine blk_drewN ?_ _ | refine blk_drew ?_ | refine blk_alloc ?_ _)); exact ab.out)) : ac ≠ aa))
               have n8_ := Aside0.mk ((by rw [hg]; exact Nat.ne_of_lt (blk_lt (g := ad) (o := .cells #[.int .u32 a5, .int .i64 a4] 24 (0, 0)) (by (with_reducible repeat (first | refine blk_drewN ?_ _ | refine blk_drew ?_ | refine blk_alloc ?_ _)); exact af.out)) : ad ≠ ac))
               have n9_ := Aside0.mk ((by rw [hg]; exact Nat.ne_of_gt (blk_lt (g := ad) (o := .cells #[.int .u32 a5, .int .i64 a4] 24 (0, 0)) (by (with_reducible repeat (first | refine blk_drewN ?_ _ | refine blk_drew ?_ | refine blk_alloc ?_ _)); exact af.out)) : ac ≠ ad))
               clear ab
               clear af
               clear HB
               have ab := n0_
               have af := n1_
               have HB := n2_
               have au := n3_
               have a6 := n4_
               have ax := n5_
               have ag := n6_
               have ak := n7_
               have al := n8_
               have am := n9_
               clear n0_ n1_ n2_ n3_ n4_ n5_ n6_ n7_ n8_ n9_
               clear hb hbox hg
               refine hK.out _ _ (k4592.b2e ab.out) (fun hHeld => ?_)
               clear hK K
               refine norm_ (a' := ?_) ?_ ?_
               rotate_left
               ·show Act.put _ (some 5) _ = _
                simp only [Act.put, List.setIfInBounds_toArray, List.set_cons_zero, List.set_cons_succ, i64_w]
                rfl
               exact norm_ (by first | (simp only [putAll, Act.put, List.setIfInBounds_toArray, List.set_cons_zero, List.set_cons_succ]; done) | (simp only [putAll, Act.put, List.setIfInBounds_toArray, List.set_cons_zero, List.set_cons_succ]; rfl)) (hJ5_15 (ac) _ ⟨hHeld, (by (with_reducible repeat (first | refine blk_drewN ?_ _ | refine blk_drew ?_ | refine blk_alloc ?_ _)); exact ab.out), (by (with_reducible repeat (first | refine blk_drewN ?_ _ | refine blk_drew ?_ | refine blk_alloc ?_ _)); exact af.out), (by (with_reducible repeat (first | refine blk_drewN ?_ _ | refine blk_drew ?_ | refine blk_alloc ?_ _)); exact au.out), a6.out, ax.out, ag.out, ak.out, al.out, am.out, (by repeat (first | (with_reducible first | exact HB.out | apply below_alloc | apply pw_below_drewN | apply below_drew1 | refine below_set ?_ ao.out | refine below_set ?_ ar.out | refine below_set ?_ ax.out) | exact HB.out))⟩)
              ·skip
               refine box_step ?hg (N := 6) ?hd (cs := #[.int .u32 0, .int .i64 0]) (t := 24) ?hr ?_; (case hd => rfl); (case hg => rfl); (case hr => first | (go_simp; done) | (go_simp; rfl))
               intro ae hg w18 hbox hb
               have n0_ := Aside0.mk (blk_below (g := aa) (by (with_reducible repeat (first | refine blk_drewN ?_ _ | refine blk_drew ?_ | refine blk_alloc ?_ _)); exact ab.out) hb)
               have n1_ := Aside0.mk (blk_below (g := ad) (by (with_reducible repeat (first | refine blk_drewN ?_ _ | refine blk_drew ?_ | refine blk_alloc ?_ _)); exact af.out) hb)
               have n2_ := Aside0.mk (below_step (by repeat (first | (with_reducible first | exact HB.out | apply below_alloc | apply pw_below_drewN | apply below_drew1 | refine below_set ?_ ao.out | refine below_set ?_ ar.out) | exact HB.out)) hb)
               have n3_ := Aside0.mk (hbox)
               have n4_ := Aside0.mk ((by rw [hg]; exact (below_size (by repeat (first | (with_reducible first | exact HB.out | apply below_alloc | apply pw_below_drewN | apply below_drew1 | refine below_set ?_ ao.out | refine below_set ?_ ar.out) | exact HB.out))) : w.heap.size ≤ ae))
               have n5_ := Aside0.mk ((by rw [hg]; exact (below_size (by repeat (first | (with_reducible first | exact HB.out | apply below_alloc | apply pw_below_drewN | apply below_drew1 | refine below_set ?_ ao.out | refine below_set ?_ ar.out) | exact HB.out))) : w.heap.size ≤ ae))
               have n6_ := Aside0.mk ((by rw [hg]; exact Nat.ne_of_lt (blk_lt (g := aa) (o := .cells #[.int .u32 aj, .int .i64 ai] 24 (0, 0)) (by (with_reducible repeat (first | refine blk_drewN ?_ _ | refine blk_drew ?_ | refine blk_alloc ?_ _)); exact ab.out)) : aa ≠ ae))
               have n7_ := Aside0.mk ((by rw [hg]; exact Nat.ne_of_gt (blk_lt (g := aa) (o := .cells #[.int .u32 aj, .int .i64 ai] 24 (0, 0)) (by (with_reducible repeat (first | refine blk_drewN ?_ _ | refine blk_drew ?_ | refine blk_alloc ?_ _)); exact ab.out)) : ae ≠ aa))
               have n8_ := Aside0.mk ((by rw [hg]; exact Nat.ne_of_lt (blk_lt (g := ad) (o := .cells #[.int .u32 a5, .int .i64 a4] 24 (0, 0)) (by (with_reducible repeat (first | refine blk_drewN ?_ _ | refine blk_drew ?_ | refine blk_alloc ?_ _)); exact af.out)) : ad ≠ ae))
               have n9_ := Aside0.mk ((by rw [hg]; exact Nat.ne_of_gt (blk_lt (g := ad) (o := .cells #[.int .u32 a5, .int .i64 a4] 24 (0, 0)) (by (with_reducible repeat (first | refine blk_drewN ?_ _ | refine blk_drew ?_ | refine blk_alloc ?_ _)); exact af.out)) : ae ≠ ad))
               clear ab
               clear af
               clear HB
               have ab := n0_
               have af := n1_
               have HB := n2_
               have ay := n3_
               have a7 := n4_
               have az := n5_
               have ah := n6_
               have an := n7_
               have ap := n8_
               have aq := n9_
               clear n0_ n1_ n2_ n3_ n4_ n5_ n6_ n7_ n8_ n9_
               clear hb hbox hg
               refine hK.out _ _ (k4592.b2e ab.out) (fun hHeld => ?_)
               clear hK K
               refine norm_ (a' := ?_) ?_ ?_
               rotate_left
               ·show Act.put _ (some 6) _ = _
                simp only [Act.put, List.setIfInBounds_toArray, List.set_cons_zero, List.set_cons_succ, i64_w]
                rfl
               exact norm_ (by first | (simp only [putAll, Act.put, List.setIfInBounds_toArray, List.set_cons_zero, List.set_cons_succ]; done) | (simp only [putAll, Act.put, List.setIfInBounds_toArray, List.set_cons_zero, List.set_cons_succ]; rfl)) (hJ5_16 (ae) _ ⟨hHeld, (by (with_reducible repeat (first | refine blk_drewN ?_ _ | refine blk_drew ?_ | refine blk_alloc ?_ _)); exact ab.out), (by (with_reducible repeat (first | refine blk_drewN ?_ _ | refine blk_drew ?_ | refine blk_alloc ?_ _)); exact af.out), (by (with_reducible repeat (first | refine blk_drewN ?_ _ | refine blk_drew ?_ | refine blk_alloc ?_ _)); exact ay.out), a7.out, az.out, ah.out, an.out, ap.out, aq.out, (by repeat (first | (with_reducible first | exact HB.out | apply below_alloc | apply pw_below_drewN | apply below_drew1 | refine below_set ?_ ao.out | refine below_set ?_ ar.out | refine below_set ?_ az.out) | exact HB.out))⟩)
            ·skip
             rintro ⟨ac, ae⟩ w19 ⟨hS_, h0_, h1_, h2_, h3_, h4_, h5_, h6_, h7_, h8_, h9_, h10_, h11_, h12_, h13_, h14_, h15_, h16_, h17_, h18_⟩
             have n0_ : Aside0 (w19.heap[aa]? = some (.cells #[.int .u32 aj, .int .i64 ai] 24 (0, 0))) := ⟨h0_⟩
             have n1_ : Aside0 (w19.heap[ad]? = some (.cells #[.int .u32 a5, .int .i64 a4] 24 (0, 0))) := ⟨h1_⟩
             have n2_ : Aside0 (w19.heap[ac]? = some (.cells #[.int .u32 0, .int .i64 0] 24 (0, 0))) := ⟨h2_⟩
             have n3_ : Aside0 (w19.heap[ae]? = some (.cells #[.int .u32 0, .int .i64 0] 24 (0, 0))) := ⟨h3_⟩
             have n4_ : Aside0 (w.heap.size ≤ ac) := ⟨h4_⟩
             have n5_ : Aside0 (w.heap.size ≤ ac) := ⟨h5_⟩
             have n6_ : Aside0 (aa ≠ ac) := ⟨h6_⟩
             have n7_ : Aside0 (ac ≠ aa) := ⟨h7_⟩
             have n8_ : Aside0 (ad ≠ ac) := ⟨h8_⟩
             have n9_ : Aside0 (ac ≠ ad) := ⟨h9_⟩
             have n10_ : Aside0 (ae ≠ ac) := ⟨h10_⟩
             have n11_ : Aside0 (ac ≠ ae) := ⟨h11_⟩
             have n12_ : Aside0 (w.heap.size ≤ ae) := ⟨h12_⟩
             have n13_ : Aside0 (w.heap.size ≤ ae) := ⟨h13_⟩
             have n14_ : Aside0 (aa ≠ ae) := ⟨h14_⟩
             have n15_ : Aside0 (ae ≠ aa) := ⟨h15_⟩
             have n16_ : Aside0 (ad ≠ ae) := ⟨h16_⟩
             have n17_ : Aside0 (ae ≠ ad) := ⟨h17_⟩
             have n18_ : Aside0 (Below w.heap.size w w19) := ⟨h18_⟩
             clear ab
             clear af
             clear HB
             clear h0_ h1_ h2_ h3_ h4_ h5_ h6_ h7_ h8_ h9_ h10_ h11_ h12_ h13_ h14_ h15_ h16_ h17_ h18_
             have ab := n0_
             have af := n1_
             have au := n2_
             have ay := n3_
             have a6 := n4_
             have ax := n5_
             have ag := n6_
             have ak := n7_
             have al := n8_
             have am := n9_
             have av := n10_
             have aw := n11_
             have a7 := n12_
             have az := n13_
             have ah := n14_
             have an := n15_
             have ap := n16_
             have aq := n17_
             have HB := n18_
             clear n0_ n1_ n2_ n3_ n4_ n5_ n6_ n7_ n8_ n9_ n10_ n11_ n12_ n13_ n14_ n15_ n16_ n17_ n18_
             have hHeld : w19.cell? ⟨aa, 0, none⟩ = some (.int .u32 aj) ∧ w19.cell? ⟨aa, 1, none⟩ = some (.int .i64 ai) := hS_
             refine norm_ (a' := ?_) ?_ ?_
             rotate_left
             ·simp only [putAll, Act.put, List.setIfInBounds_toArray, List.set_cons_zero, List.set_cons_succ]
              rfl
             refine one_ (i := 5) (N := some 23) #[true, true, true, true, true, true, false, true, true, true, false, false, false, false, false, true, true, false, false] rfl rfl (one_of HT_.out (by kernel_rfl)) (by decide) (fun K hK => ?_)
             refine goes_ Tryd.func15 (by kernel_rfl) rfl #[.int .i64 (wrap64 (ai - 1))] (by rfl) rfl rfl (by (try simp only [List.map_toArray, List.map_cons, List.map_nil]); first | done | rfl) ?_
             with_reducible refine (addr_mask.calls (wrap64 (ai - 1)) t126 _ a9.out).mono ?_
             rintro e w' ⟨rfl, ⟨nd, rfl⟩⟩
             refine ⟨_, rfl, ?_⟩
             refine hK.out _ _ (k4592.b2e ab.out) (fun hHeld => ?_)
             clear hK K
             refine norm_ (a' := ?_) ?_ ?_
             rotate_left
             ·show Act.put _ (some 23) _ = _
              simp only [Act.put, List.setIfInBounds_toArray, List.set_cons_zero, List.set_cons_succ, i64_w]
              rfl
             refine pure_ (i := 6) (N := some 24) (v := ?_) (a' := ?_) #[true, true, true, true, true, true, true, true, true, true, false, false, false, false, false, true, true, false, false] rfl rfl (any_of HT_.out (by kernel_rfl)) (fun _ _ _ h => h) (Or.inl ⟨by rfl, ?_⟩) ?_ ?_
             rotate_left
             ·intro w'
              go_simp
              with_reducible rfl
             rotate_left
             ·simp only [Act.put, List.setIfInBounds_toArray, List.set_cons_zero, List.set_cons_succ, i64_w]
              rfl
             refine pure_ (i := 10) (N := some 28) (v := ?_) (a' := ?_) #[true, true, true, true, true, true, true, true, true, true, true, false, false, false, false, true, true, false, false] rfl rfl (any_of HT_.out (by kernel_rfl)) (fun _ _ _ h => h) (Or.inl ⟨by rfl, ?_⟩) ?_ ?_
             rotate_left
             ·intro w'
              go_simp
              with_reducible rfl
             rotate_left
             ·simp only [Act.put, List.setIfInBounds_toArray, List.set_cons_zero, List.set_cons_succ, i64_w]
              rfl
             exact norm_ (by first | (simp only [putAll, Act.put, List.setIfInBounds_toArray, List.set_cons_zero, List.set_cons_succ]; done) | (simp only [putAll, Act.put, List.setIfInBounds_toArray, List.set_cons_zero, List.set_cons_succ]; rfl)) (hJ5_15_16 (ac, ae) _ ⟨hHeld, (by (with_reducible repeat (first | refine blk_drewN ?_ _ | refine blk_drew ?_ | refine blk_alloc ?_ _)); exact ab.out), (by (with_reducible repeat (first | refine blk_drewN ?_ _ | refine blk_drew ?_ | refine blk_alloc ?_ _)); exact af.out), (by (with_reducible repeat (first | refine blk_drewN ?_ _ | refine blk_drew ?_ | refine blk_alloc ?_ _)); exact au.out), (by (with_reducible repeat (first | refine blk_drewN ?_ _ | refine blk_drew ?_ | refine blk_alloc ?_ _)); exact ay.out), a6.out, ax.out, ag.out, ak.out, al.out, am.out, av.out, aw.out, a7.out, az.out, ah.out, an.out, ap.out, aq.out, (by repeat (first | (with_reducible first | exact HB.out | apply below_alloc | apply pw_below_drewN | apply below_drew1 | refine below_set ?_ ao.out | refine below_set ?_ ar.out | refine below_set ?_ ax.out | refine below_set ?_ az.out) | exact HB.out))⟩)
           ·skip
            rintro ae w18 ⟨hS_, h0_, h1_, h2_, h3_, h4_, h5_, h6_, h7_, h8_, h9_⟩
            have n0_ : Aside0 (w18.heap[aa]? = some (.cells #[.int .u32 aj, .int .i64 ai] 24 (0, 0))) := ⟨h0_⟩
            have n1_ : Aside0 (w18.heap[ad]? = some (.cells #[.int .u32 a5, .int .i64 a4] 24 (0, 0))) := ⟨h1_⟩
            have n2_ : Aside0 (w18.heap[ae]? = some (.cells #[.int .u32 0, .int .i64 0] 24 (0, 0))) := ⟨h2_⟩
            have n3_ : Aside0 (w.heap.size ≤ ae) := ⟨h3_⟩
            have n4_ : Aside0 (w.heap.size ≤ ae) := ⟨h4_⟩
            have n5_ : Aside0 (aa ≠ ae) := ⟨h5_⟩
            have n6_ : Aside0 (ae ≠ aa) := ⟨h6_⟩
            have n7_ : Aside0 (ad ≠ ae) := ⟨h7_⟩
            have n8_ : Aside0 (ae ≠ ad) := ⟨h8_⟩
            have n9_ : Aside0 (Below w.heap.size w w18) := ⟨h9_⟩
            clear ab
            clear af
            clear HB
            clear h0_ h1_ h2_ h3_ h4_ h5_ h6_ h7_ h8_ h9_
            have ab := n0_
            have af := n1_
            have ay := n2_
            have a7 := n3_
            have az := n4_
            have ah := n5_
            have an := n6_
            have ap := n7_
            have aq := n8_
            have HB := n9_
            clear n0_ n1_ n2_ n3_ n4_ n5_ n6_ n7_ n8_ n9_
            have hHeld : w18.cell? ⟨aa, 0, none⟩ = some (.int .u32 aj) ∧ w18.cell? ⟨aa, 1, none⟩ = some (.int .i64 ai) := hS_
            refine norm_ (a' := ?_) ?_ ?_
            rotate_left
            ·simp only [putAll, Act.put, List.setIfInBounds_toArray, List.set_cons_zero, List.set_cons_succ]
             rfl
            refine two_ (i := 11) (j := 15) (Ni := some 29) (Nj := some 5) #[true, true, true, true, true, true, true, true, true, true, true, true, false, false, false, false, true, false, false] #[true, true, true, true, true, true, true, true, true, true, true, false, false, false, false, true, true, false, false] rfl rfl rfl rfl (two_of HT_.out (by kernel_rfl)) (by decide) (by decide) (fun K hK => ?_) (fun K hK => ?_)
            ·skip
             refine goes_ Tryd.func43 (by kernel_rfl) rfl #[.agg #[.int .u32 (Go.bits .and .u32 aj t126), .int .i64 (wrap64 (ai - 1))]] (by rfl) rfl rfl (by (try simp only [List.map_toArray, List.map_cons, List.map_nil]); first | done | rfl) ?_
             with_reducible refine (addr_halves.calls (Go.bits .and .u32 aj t126) (wrap64 (ai - 1)) t127 t128 t129 t130 _ ba.out).mono ?_
             rintro e w19 ⟨rfl, hb⟩
             refine ⟨_, rfl, ?_⟩
             replace ab := Aside0.mk (blk_below (g := aa) (by (with_reducible repeat (first | refine blk_drewN ?_ _ | refine blk_drew ?_ | refine blk_alloc ?_ _)); exact ab.out) hb)
             replace af := Aside0.mk (blk_below (g := ad) (by (with_reducible repeat (first | refine blk_drewN ?_ _ | refine blk_drew ?_ | refine blk_alloc ?_ _)); exact af.out) hb)
             replace ay := Aside0.mk (blk_below (g := ae) (by (with_reducible repeat (first | refine blk_drewN ?_ _ | refine blk_drew ?_ | refine blk_alloc ?_ _)); exact ay.out) hb)
             replace HB := Aside0.mk (below_step (by repeat (first | (with_reducible first | exact HB.out | apply below_alloc | apply pw_below_drewN | apply below_drew1 | refine below_set ?_ ao.out | refine below_set ?_ ar.out | refine below_set ?_ az.out) | exact HB.out)) hb)
             (try clear hb)
             (try clear hb2)
             (try clear hk)
             (try clear hi)
             refine hK.out _ _ (k4592.b2e ab.out) (fun hHeld => ?_)
             clear hK K
             refine norm_ (a' := ?_) ?_ ?_
             rotate_left
             ·show Act.put _ (some 29) _ = _
              simp only [Act.put, List.setIfInBounds_toArray, List.set_cons_zero, List.set_cons_succ, i64_w]
              rfl
             refine pure_ (i := 12) (N := some 17) (v := ?_) (a' := ?_) #[true, true, true, true, true, true, true, true, true, true, true, true, true, false, false, false, true, false, false] rfl rfl (any_of HT_.out (by kernel_rfl)) (fun _ _ _ h => h) (Or.inl ⟨by rfl, ?_⟩) ?_ ?_
             rotate_left
             ·intro w'
              go_simp
              with_reducible rfl
             rotate_left
             ·simp only [Act.put, List.setIfInBounds_toArray, List.set_cons_zero, List.set_cons_succ, i64_w]
              rfl
             refine pure_ (i := 13) (N := some 30) (v := ?_) (a' := ?_) #[true, true, true, true, true, true, true, true, true, true, true, true, true, true, false, false, true, false, false] rfl rfl (any_of HT_.out (by kernel_rfl)) (fun _ _ _ h => h) (Or.inl ⟨by rfl, ?_⟩) ?_ ?_
             rotate_left
             ·intro w'
              go_simp
              with_reducible rfl
             rotate_left
             ·simp only [Act.put, List.setIfInBounds_toArray, List.set_cons_zero, List.set_cons_succ, i64_w]
              rfl
             refine pure_ (i := 14) (N := some 31) (v := ?_) (a' := ?_) #[true, true, true, true, true, true, true, true, true, true, true, true, true, true, true, false, true, false, false] rfl rfl (any_of HT_.out (by kernel_rfl)) (fun _ _ _ h => h) (Or.inl ⟨by rfl, ?_⟩) ?_ ?_
             rotate_left
             ·intro w'
              go_simp
              with_reducible rfl
             rotate_left
             ·simp only [Act.put, List.setIfInBounds_toArray, List.set_cons_zero, List.set_cons_succ, i64_w]
              rfl
             exact norm_ (by first | (simp only [putAll, Act.put, List.setIfInBounds_toArray, List.set_cons_zero, List.set_cons_succ]; done) | (simp only [putAll, Act.put, List.setIfInBounds_toArray, List.set_cons_zero, List.set_cons_succ]; rfl)) (hJ5_11_16 (ae) _ ⟨hHeld, (by (with_reducible repeat (first | refine blk_drewN ?_ _ | refine blk_drew ?_ | refine blk_alloc ?_ _)); exact ab.out), (by (with_reducible repeat (first | refine blk_drewN ?_ _ | refine blk_drew ?_ | refine blk_alloc ?_ _)); exact af.out), (by (with_reducible repeat (first | refine blk_drewN ?_ _ | refine blk_drew ?_ | refine blk_alloc ?_ _)); exact ay.out), a7.out, az.out, ah.out, an.out, ap.out, aq.out, (by repeat (first | (with_reducible first | exact HB.out | apply below_alloc | apply pw_below_drewN | apply below_drew1 | refine below_set ?_ ao.out | refine below_set ?_ ar.out | refine below_set ?_ az.out) | exact HB.out))⟩)
            ·skip
             refine box_step ?hg (N := 5) ?hd (cs := #[.int .u32 0, .int .i64 0]) (t := 24) ?hr ?_; (case hd => rfl); (case hg => rfl); (case hr => first | (go_simp; done) | (go_simp; rfl))
             intro ac hg w19 hbox hb
             have n0_ := Aside0.mk (blk_below (g := aa) (by (with_reducible repeat (first | refine blk_drewN ?_ _ | refine blk_drew ?_ | refine blk_alloc ?_ _)); exact ab.out) hb)
             have n1_ := Aside0.mk (blk_below (g := ad) (by (with_reducible repeat (first | refine blk_drewN ?_ _ | refine blk_drew ?_ | refine blk_alloc ?_ _)); exact af.out) hb)
             have n2_ := Aside0.mk (blk_below (g := ae) (by (with_reducible repeat (first | refine blk_drewN ?_ _ | refine blk_drew ?_ | refine blk_alloc ?_ _)); exact ay.out) hb)
             have n3_ := Aside0.mk (below_step (by repeat (first | (with_reducible first | exact HB.out | apply below_alloc | apply pw_below_drewN | apply below_drew1 | refine below_set ?_ ao.out | refine below_set ?_ ar.out | refine below_set ?_ az.out) | exact HB.out)) hb)
             have n4_ := Aside0.mk (hbox)
             have n5_ := Aside0.mk ((by rw [hg]; exact (below_size (by repeat (first | (with_reducible first | exact HB.out | apply below_alloc | apply pw_below_drewN | apply below_drew1 | refine below_set ?_ ao.out | refine below_set ?_ ar.out | refine below_set ?_ az.out) | exact HB.out))) : w.heap.size ≤ ac))
             have n6_ := Aside0.mk ((by rw [hg]; exact (below_size (by repeat (first | (with_reducible first | exact HB.out | apply below_alloc | apply pw_below_drewN | apply below_drew1 | refine below_set ?_ ao.out | refine below_set ?_ ar.out | refine below_set ?_ az.out) | exact HB.out))) : w.heap.size ≤ ac))
             have n7_ := Aside0.mk ((by rw [hg]; exact Nat.ne_of_lt (blk_lt (g := aa) (o := .cells #[.int .u32 aj, .int .i64 ai] 24 (0, 0)) (by (with_reducible repeat (first | refine blk_drewN ?_ _ | refine blk_drew ?_ | refine blk_alloc ?_ _)); exact ab.out)) : aa ≠ ac))
             have n8_ := Aside0.mk ((by rw [hg]; exact Nat.ne_of_gt (blk_lt (g := aa) (o := .cells #[.int .u32 aj, .int .i64 ai] 24 (0, 0)) (by (with_reducible repeat (first | refine blk_drewN ?_ _ | refine blk_drew ?_ | refine blk_alloc ?_ _)); exact ab.out)) : ac ≠ aa))
             have n9_ := Aside0.mk ((by rw [hg]; exact Nat.ne_of_lt (blk_lt (g := ad) (o := .cells #[.int .u32 a5, .int .i64 a4] 24 (0, 0)) (by (with_reducible repeat (first | refine blk_drewN ?_ _ | refine blk_drew ?_ | refine blk_alloc ?_ _)); exact af.out)) : ad ≠ ac))
             have n10_ := Aside0.mk ((by rw [hg]; exact Nat.ne_of_gt (blk_lt (g := ad) (o := .cells #[.int .u32 a5, .int .i64 a4] 24 (0, 0)) (by (with_reducible repeat (first | refine blk_drewN ?_ _ | refine blk_drew ?_ | refine blk_alloc ?_ _)); exact af.out)) : ac ≠ ad))
             have n11_ := Aside0.mk ((by rw [hg]; exact Nat.ne_of_lt (blk_lt (g := ae) (o := .cells #[.int .u32 0, .int .i64 0] 24 (0, 0)) (by (with_reducible repeat (first | refine blk_drewN ?_ _ | refine blk_drew ?_ | refine blk_alloc ?_ _)); exact ay.out)) : ae ≠ ac))
             have n12_ := Aside0.mk ((by rw [hg]; exact Nat.ne_of_gt (blk_lt (g := ae) (o := .cells #[.int .u32 0, .int .i64 0] 24 (0, 0)) (by (with_reducible repeat (first | refine blk_drewN ?_ _ | refine blk_drew ?_ | refine blk_alloc ?_ _)); exact ay.out)) : ac ≠ ae))
             clear ab
             clear af
             clear ay
             clear HB
             have ab := n0_
             have af := n1_
             have ay := n2_
             have HB := n3_
             have au := n4_
             have a6 := n5_
             have ax := n6_
             have ag := n7_
             have ak := n8_
             have al := n9_
             have am := n10_
             have av := n11_
             have aw := n12_
             clear n0_ n1_ n2_ n3_ n4_ n5_ n6_ n7_ n8_ n9_ n10_ n11_ n12_
             clear hb hbox hg
             refine hK.out _ _ (k4592.b2e ab.out) (fun hHeld => ?_)
             clear hK K
             refine norm_ (a' := ?_) ?_ ?_
             rotate_left
             ·show Act.put _ (some 5) _ = _
              simp only [Act.put, List.setIfInBounds_toArray, List.set_cons_zero, List.set_cons_succ, i64_w]
              rfl
             exact norm_ (by first | (simp only [putAll, Act.put, List.setIfInBounds_toArray, List.set_cons_zero, List.set_cons_succ]; done) | (simp only [putAll, Act.put, List.setIfInBounds_toArray, List.set_cons_zero, List.set_cons_succ]; rfl)) (hJ5_15_16 (ac, ae) _ ⟨hHeld, (by (with_reducible repeat (first | refine blk_drewN ?_ _ | refine blk_drew ?_ | refine blk_alloc ?_ _)); exact ab.out), (by (with_reducible repeat (first | refine blk_drewN ?_ _ | refine blk_drew ?_ | refine blk_alloc ?_ _)); exact af.out), (by (with_reducible repeat (first | refine blk_drewN ?_ _ | refine blk_drew ?_ | refine blk_alloc ?_ _)); exact au.out), (by (with_reducible repeat (first | refine blk_drewN ?_ _ | refine blk_drew ?_ | refine blk_alloc ?_ _)); exact ay.out), a6.out, ax.out, ag.out, ak.out, al.out, am.out, av.out, aw.out, a7.out, az.out, ah.out, an.out, ap.out, aq.out, (by repeat (first | (with_reducible first | exact HB.out | apply below_alloc | apply pw_below_drewN | apply below_drew1 | refine below_set ?_ ao.out | refine below_set ?_ ar.out | refine below_set ?_ az.out | refine below_set ?_ ax.out) | exact HB.out))⟩)
          ·skip
           rintro ac w18 ⟨hS_, h0_, h1_, h2_, h3_, h4_, h5_, h6_, h7_, h8_, h9_⟩
           have n0_ : Aside0 (w18.heap[aa]? = some (.cells #[.int .u32 aj, .int .i64 ai] 24 (0, 0))) := ⟨h0_⟩
           have n1_ : Aside0 (w18.heap[ad]? = some (.cells #[.int .u32 a5, .int .i64 a4] 24 (0, 0))) := ⟨h1_⟩
           have n2_ : Aside0 (w18.heap[ac]? = some (.cells #[.int .u32 0, .int .i64 0] 24 (0, 0))) := ⟨h2_⟩
           have n3_ : Aside0 (w.heap.size ≤ ac) := ⟨h3_⟩
           have n4_ : Aside0 (w.heap.size ≤ ac) := ⟨h4_⟩
           have n5_ : Aside0 (aa ≠ ac) := ⟨h5_⟩
           have n6_ : Aside0 (ac ≠ aa) := ⟨h6_⟩
           have n7_ : Aside0 (ad ≠ ac) := ⟨h7_⟩
           have n8_ : Aside0 (ac ≠ ad) := ⟨h8_⟩
           have n9_ : Aside0 (Below w.heap.size w w18) := ⟨h9_⟩
           clear ab
           clear af
           clear HB
           clear h0_ h1_ h2_ h3_ h4_ h5_ h6_ h7_ h8_ h9_
           have ab := n0_
           have af := n1_
           have au := n2_
           have a6 := n3_
           have ax := n4_
           have ag := n5_
           have ak := n6_
           have al := n7_
           have am := n8_
           have HB := n9_
           clear n0_ n1_ n2_ n3_ n4_ n5_ n6_ n7_ n8_ n9_
           have hHeld : w18.cell? ⟨aa, 0, none⟩ = some (.int .u32 aj) ∧ w18.cell? ⟨aa, 1, none⟩ = some (.int .i64 ai) := hS_
           refine norm_ (a' := ?_) ?_ ?_
           rotate_left
           ·simp only [putAll, Act.put, List.setIfInBounds_toArray, List.set_cons_zero, List.set_cons_succ]
            rfl
           refine two_ (i := 11) (j := 16) (Ni := some 29) (Nj := some 6) #[true, true, true, true, true, true, true, true, true, true, true, true, false, false, false, true, false, false, false] #[true, true, true, true, true, true, true, true, true, true, true, false, false, false, false, true, true, false, false] rfl rfl rfl rfl (two_of HT_.out (by kernel_rfl)) (by decide) (by decide) (fun K hK => ?_) (fun K hK => ?_)
           ·skip
            refine goes_ Tryd.func43 (by kernel_rfl) rfl #[.agg #[.int .u32 (Go.bits .and .u32 aj t126), .int .i64 (wrap64 (ai - 1))]] (by rfl) rfl rfl (by (try simp only [List.map_toArray, List.map_cons, List.map_nil]); first | done | rfl) ?_
            with_reducible refine (addr_halves.calls (Go.bits .and .u32 aj t126) (wrap64 (ai - 1)) t127 t128 t129 t130 _ ba.out).mono ?_
            rintro e w19 ⟨rfl, hb⟩
            refine ⟨_, rfl, ?_⟩
            replace ab := Aside0.mk (blk_below (g := aa) (by (with_reducible repeat (first | refine blk_drewN ?_ _ | refine blk_drew ?_ | refine blk_alloc ?_ _)); exact ab.out) hb)
            replace af := Aside0.mk (blk_below (g := ad) (by (with_reducible repeat (first | refine blk_drewN ?_ _ | refine blk_drew ?_ | refine blk_alloc ?_ _)); exact af.out) hb)
            replace au := Aside0.mk (blk_below (g := ac) (by (with_reducible repeat (first | refine blk_drewN ?_ _ | refine blk_drew ?_ | refine blk_alloc ?_ _)); exact au.out) hb)
            replace HB := Aside0.mk (below_step (by repeat (first | (with_reducible first | exact HB.out | apply below_alloc | apply pw_below_drewN | apply below_drew1 | refine below_set ?_ ao.out | refine below_set ?_ ar.out | refine below_set ?_ ax.out) | exact HB.out)) hb)
            (try clear hb)
            (try clear hb2)
            (try clear hk)
            (try clear hi)
            refine hK.out _ _ (k4592.b2e ab.out) (fun hHeld => ?_)
            clear hK K
            refine norm_ (a' := ?_) ?_ ?_
            rotate_left
            ·show Act.put _ (some 29) _ = _
             simp only [Act.put, List.setIfInBounds_toArray, List.set_cons_zero, List.set_cons_succ, i64_w]
             rfl
            refine pure_ (i := 12) (N := some 17) (v := ?_) (a' := ?_) #[true, true, true, true, true, true, true, true, true, true, true, true, true, false, false, true, false, false, false] rfl rfl (any_of HT_.out (by kernel_rfl)) (fun _ _ _ h => h) (Or.inl ⟨by rfl, ?_⟩) ?_ ?_
            rotate_left
            ·intro w'
             go_simp
             with_reducible rfl
            rotate_left
            ·simp only [Act.put, List.setIfInBounds_toArray, List.set_cons_zero, List.set_cons_succ, i64_w]
             rfl
            refine pure_ (i := 13) (N := some 30) (v := ?_) (a' := ?_) #[true, true, true, true, true, true, true, true, true, true, true, true, true, true, false, true, false, false, false] rfl rfl (any_of HT_.out (by kernel_rfl)) (fun _ _ _ h => h) (Or.inl ⟨by rfl, ?_⟩) ?_ ?_
            rotate_left
            ·intro w'
             go_simp
             with_reducible rfl
            rotate_left
            ·simp only [Act.put, List.setIfInBounds_toArray, List.set_cons_zero, List.set_cons_succ, i64_w]
             rfl
            refine pure_ (i := 14) (N := some 31) (v := ?_) (a' := ?_) #[true, true, true, true, true, true, true, true, true, true, true, true, true, true, true, true, false, false, false] rfl rfl (any_of HT_.out (by kernel_rfl)) (fun _ _ _ h => h) (Or.inl ⟨by rfl, ?_⟩) ?_ ?_
            rotate_left
            ·intro w'
             go_simp
             with_reducible rfl
            rotate_left
            ·simp only [Act.put, List.setIfInBounds_toArray, List.set_cons_zero, List.set_cons_succ, i64_w]
             rfl
            exact norm_ (by first | (simp only [putAll, Act.put, List.setIfInBounds_toArray, List.set_cons_zero, List.set_cons_succ]; done) | (simp only [putAll, Act.put, List.setIfInBounds_toArray, List.set_cons_zero, List.set_cons_succ]; rfl)) (hJ5_11_15 (ac) _ ⟨hHeld, (by (with_reducible repeat (first | refine blk_drewN ?_ _ | refine blk_drew ?_ | refine blk_alloc ?_ _)); exact ab.out), (by (with_reducible repeat (first | refine blk_drewN ?_ _ | refine blk_drew ?_ | refine blk_alloc ?_ _)); exact af.out), (by (with_reducible repeat (first | refine blk_drewN ?_ _ | refine blk_drew ?_ | refine blk_alloc ?_ _)); exact au.out), a6.out, ax.out, ag.out, ak.out, al.out, am.out, (by repeat (first | (with_reducible first | exact HB.out | apply below_alloc | apply pw_below_drewN | apply below_drew1 | refine below_set ?_ ao.out | refine below_set ?_ ar.out | refine below_set ?_ ax.out) | exact HB.out))⟩)
           ·skip
            refine box_step ?hg (N := 6) ?hd (cs := #[.int .u32 0, .int .i64 0]) (t := 24) ?hr ?_; (case hd => rfl); (case hg => rfl); (case hr => first | (go_simp; done) | (go_simp; rfl))
            intro ae hg w19 hbox hb
            have n0_ := Aside0.mk (blk_below (g := aa) (by (with_reducible repeat (first | refine blk_drewN ?_ _ | refine blk_drew ?_ | refine blk_alloc ?_ _)); exact ab.out) hb)
            have n1_ := Aside0.mk (blk_below (g := ad) (by (with_reducible repeat (first | refine blk_drewN ?_ _ | refine blk_drew ?_ | refine blk_alloc ?_ _)); exact af.out) hb)
            have n2_ := Aside0.mk (blk_below (g := ac) (by (with_reducible repeat (first | refine blk_drewN ?_ _ | refine blk_drew ?_ | refine blk_alloc ?_ _)); exact au.out) hb)
            have n3_ := Aside0.mk (below_step (by repeat (first | (with_reducible first | exact HB.out | apply below_alloc | apply pw_below_drewN | apply below_drew1 | refine below_set ?_ ao.out | refine below_set ?_ ar.out | refine below_set ?_ ax.out) | exact HB.out)) hb)
            have n4_ := Aside0.mk (hbox)
            have n5_ := Aside0.mk ((by rw [hg]; exact (below_size (by repeat (first | (with_reducible first | exact HB.out | apply below_alloc | apply pw_below_drewN | apply below_drew1 | refine below_set ?_ ao.out | refine below_set ?_ ar.out | refine below_set ?_ ax.out) | exact HB.out))) : w.heap.size ≤ ae))
            have n6_ := Aside0.mk ((by rw [hg]; exact (below_size (by repeat (first | (with_reducible first | exact HB.out | apply below_alloc | apply pw_below_drewN | apply below_drew1 | refine below_set ?_ ao.out | refine below_set ?_ ar.out | refine below_set ?_ ax.out) | exact HB.out))) : w.heap.size ≤ ae))
            have n7_ := Aside0.mk ((by rw [hg]; exact Nat.ne_of_lt (blk_lt (g := aa) (o := .cells #[.int .u32 aj, .int .i64 ai] 24 (0, 0)) (by (with_reducible repeat (first | refine blk_drewN ?_ _ | refine blk_drew ?_ | refine blk_alloc ?_ _)); exact ab.out)) : aa ≠ ae))
            have n8_ := Aside0.mk ((by rw [hg]; exact Nat.ne_of_gt (blk_lt (g := aa) (o := .cells #[.int .u32 aj, .int .i64 ai] 24 (0, 0)) (by (with_reducible repeat (first | refine blk_drewN ?_ _ | refine blk_drew ?_ | refine blk_alloc ?_ _)); exact ab.out)) : ae ≠ aa))
            have n9_ := Aside0.mk ((by rw [hg]; exact Nat.ne_of_lt (blk_lt (g := ad) (o := .cells #[.int .u32 a5, .int .i64 a4] 24 (0, 0)) (by (with_reducible repeat (first | refine blk_drewN ?_ _ | refine blk_drew ?_ | refine blk_alloc ?_ _)); exact af.out)) : ad ≠ ae))
            have n10_ := Aside0.mk ((by rw [hg]; exact Nat.ne_of_gt (blk_lt (g := ad) (o := .cells #[.int .u32 a5, .int .i64 a4] 24 (0, 0)) (by (with_reducible repeat (first | refine blk_drewN ?_ _ | refine blk_drew ?_ | refine blk_alloc ?_ _)); exact af.out)) : ae ≠ ad))
            have n11_ := Aside0.mk ((by rw [hg]; exact Nat.ne_of_lt (blk_lt (g := ac) (o := .cells #[.int .u32 0, .int .i64 0] 24 (0, 0)) (by (with_reducible repeat (first | refine blk_drewN ?_ _ | refine blk_drew ?_ | refine blk_alloc ?_ _)); exact au.out)) : ac ≠ ae))
            have n12_ := Aside0.mk ((by rw [hg]; exact Nat.ne_of_gt (blk_lt (g := ac) (o := .cells #[.int .u32 0, .int .i64 0] 24 (0, 0)) (by (with_reducible repeat (first | refine blk_drewN ?_ _ | refine blk_drew ?_ | refine blk_alloc ?_ _)); exact au.out)) : ae ≠ ac))
            clear ab
            clear af
            clear au
            clear HB
            have ab := n0_
            have af := n1_
            have au := n2_
            have HB := n3_
            have ay := n4_
            have a7 := n5_
            have az := n6_
            have ah := n7_
            have an := n8_
            have ap := n9_
            have aq := n10_
            have aw := n11_
            have av := n12_
            clear n0_ n1_ n2_ n3_ n4_ n5_ n6_ n7_ n8_ n9_ n10_ n11_ n12_
            clear hb hbox hg
            refine hK.out _ _ (k4592.b2e ab.out) (fun hHeld => ?_)
            clear hK K
            refine norm_ (a' := ?_) ?_ ?_
            rotate_left
            ·show Act.put _ (some 6) _ = _
             simp only [Act.put, List.setIfInBounds_toArray, List.set_cons_zero, List.set_cons_succ, i64_w]
             rfl
            exact norm_ (by first | (simp only [putAll, Act.put, List.setIfInBounds_toArray, List.set_cons_zero, List.set_cons_succ]; done) | (simp only [putAll, Act.put, List.setIfInBounds_toArray, List.set_cons_zero, List.set_cons_succ]; rfl)) (hJ5_15_16 (ac, ae) _ ⟨hHeld, (by (with_reducible repeat (first | refine blk_drewN ?_ _ | refine blk_drew ?_ | refine blk_alloc ?_ _)); exact ab.out), (by (with_reducible repeat (first | refine blk_drewN ?_ _ | refine blk_drew ?_ | refine blk_alloc ?_ _)); exact af.out), (by (with_reducible repeat (first | refine blk_drewN ?_ _ | refine blk_drew ?_ | refine blk_alloc ?_ _)); exact au.out), (by (with_reducible repeat (first | refine blk_drewN ?_ _ | refine blk_drew ?_ | refine blk_alloc ?_ _)); exact ay.out), a6.out, ax.out, ag.out, ak.out, al.out, am.out, av.out, aw.out, a7.out, az.out, ah.out, an.out, ap.out, aq.out, (by repeat (first | (with_reducible first | exact HB.out | apply below_alloc | apply pw_below_drewN | apply below_drew1 | refine below_set ?_ ao.out | refine below_set ?_ ar.out | refine below_set ?_ ax.out | refine below_set ?_ az.out) | exact HB.out))⟩)
         ·skip
          rintro _ w18 ⟨hS_, h0_, h1_, h2_⟩
          have n0_ : Aside0 (w18.heap[aa]? = some (.cells #[.int .u32 aj, .int .i64 ai] 24 (0, 0))) := ⟨h0_⟩
          have n1_ : Aside0 (w18.heap[ad]? = some (.cells #[.int .u32 a5, .int .i64 a4] 24 (0, 0))) := ⟨h1_⟩
          have n2_ : Aside0 (Below w.heap.size w w18) := ⟨h2_⟩
          clear ab
          clear af
          clear HB
          clear h0_ h1_ h2_
          have ab := n0_
          have af := n1_
          have HB := n2_
          clear n0_ n1_ n2_
          have hHeld : w18.cell? ⟨aa, 0, none⟩ = some (.int .u32 aj) ∧ w18.cell? ⟨aa, 1, none⟩ = some (.int .i64 ai) := hS_
          refine norm_ (a' := ?_) ?_ ?_
          rotate_left
          ·simp only [putAll, Act.put, List.setIfInBounds_toArray, List.set_cons_zero, List.set_cons_succ]
           rfl
          refine two_ (i := 15) (j := 16) (Ni := some 5) (Nj := some 6) #[true, true, true, true, true, true, true, true, true, true, true, true, true, true, true, true, false, false, false] #[true, true, true, true, true, true, true, true, true, true, true, true, true, true, true, false, true, false, false] rfl rfl rfl rfl (two_of HT_.out (by kernel_rfl)) (by decide) (by decide) (fun K hK => ?_) (fun K hK => ?_)
          ·skip
           refine box_step ?hg (N := 5) ?hd (cs := #[.int .u32 0, .int .i64 0]) (t := 24) ?hr ?_; (case hd => rfl); (case hg => rfl); (case hr => first | (go_simp; done) | (go_simp; rfl))
           intro ac hg w19 hbox hb
           have n0_ := Aside0.mk (blk_below (g := aa) (by (with_reducible repeat (first | refine blk_drewN ?_ _ | refine blk_drew ?_ | refine blk_alloc ?_ _)); exact ab.out) hb)
           have n1_ := Aside0.mk (blk_below (g := ad) (by (with_reducible repeat (first | refine blk_drewN ?_ _ | refine blk_drew ?_ | refine blk_alloc ?_ _)); exact af.out) hb)
           have n2_ := Aside0.mk (below_step (by repeat (first | (with_reducible first | exact HB.out | apply below_alloc | apply pw_below_drewN | apply below_drew1 | refine below_set ?_ ao.out | refine below_set ?_ ar.out) | exact HB.out)) hb)
           have n3_ := Aside0.mk (hbox)
           have n4_ := Aside0.mk ((by rw [hg]; exact (below_size (by repeat (first | (with_reducible first | exact HB.out | apply below_alloc | apply pw_below_drewN | apply below_drew1 | refine below_set ?_ ao.out | refine below_set ?_ ar.out) | exact HB.out))) : w.heap.size ≤ ac))
           have n5_ := Aside0.mk ((by rw [hg]; exact (below_size (by repeat (first | (with_reducible first | exact HB.out | apply below_alloc | apply pw_below_drewN | apply below_drew1 | refine below_set ?_ ao.out | refine below_set ?_ ar.out) | exact HB.out))) : w.heap.size ≤ ac))
           have n6_ := Aside0.mk ((by rw [hg]; exact Nat.ne_of_lt (blk_lt (g := aa) (o := .cells #[.int .u32 aj, .int .i64 ai] 24 (0, 0)) (by (with_reducible repeat (first | refine blk_drewN ?_ _ | refine blk_drew ?_ | refine blk_alloc ?_ _)); exact ab.out)) : aa ≠ ac))
           have n7_ := Aside0.mk ((by rw [hg]; exact Nat.ne_of_gt (blk_lt (g := aa) (o := .cells #[.int .u32 aj, .int .i64 ai] 24 (0, 0)) (by (with_reducible repeat (first | refine blk_drewN ?_ _ | refine blk_drew ?_ | refine blk_alloc ?_ _)); exact ab.out)) : ac ≠ aa))
           have n8_ := Aside0.mk ((by rw [hg]; exact Nat.ne_of_lt (blk_lt (g := ad) (o := .cells #[.int .u32 a5, .int .i64 a4] 24 (0, 0)) (by (with_reducible repeat (first | refine blk_drewN ?_ _ | refine blk_drew ?_ | refine blk_alloc ?_ _)); exact af.out)) : ad ≠ ac))
           have n9_ := Aside0.mk ((by rw [hg]; exact Nat.ne_of_gt (blk_lt (g := ad) (o := .cells #[.int .u32 a5, .int .i64 a4] 24 (0, 0)) (by (with_reducible repeat (first | refine blk_drewN ?_ _ | refine blk_drew ?_ | refine blk_alloc ?_ _)); exact af.out)) : ac ≠ ad))
           clear ab
           clear af
           clear HB
           have ab := n0_
           have af := n1_
           have HB := n2_
           have au := n3_
           have a6 := n4_
           have ax := n5_
           have ag := n6_
           have ak := n7_
           have al := n8_
           have am := n9_
           clear n0_ n1_ n2_ n3_ n4_ n5_ n6_ n7_ n8_ n9_
           clear hb hbox hg
           refine hK.out _ _ (k4592.b2e ab.out) (fun hHeld => ?_)
           clear hK K
           refine norm_ (a' := ?_) ?_ ?_
           rotate_left
           ·show Act.put _ (some 5) _ = _
            simp only [Act.put, List.setIfInBounds_toArray, List.set_cons_zero, List.set_cons_succ, i64_w]
            rfl
           exact norm_ (by first | (simp only [putAll, Act.put, List.setIfInBounds_toArray, List.set_cons_zero, List.set_cons_succ]; done) | (simp only [putAll, Act.put, List.setIfInBounds_toArray, List.set_cons_zero, List.set_cons_succ]; rfl)) (hJ5_11_15 (ac) _ ⟨hHeld, (by (with_reducible repeat (first | refine blk_drewN ?_ _ | refine blk_drew ?_ | refine blk_alloc ?_ _)); exact ab.out), (by (with_reducible repeat (first | refine blk_drewN ?_ _ | refine blk_drew ?_ | refine blk_alloc ?_ _)); exact af.out), (by (with_reducible repeat (first | refine blk_drewN ?_ _ | refine blk_drew ?_ | refine blk_alloc ?_ _)); exact au.out), a6.out, ax.out, ag.out, ak.out, al.out, am.out, (by repeat (first | (with_reducible first | exact HB.out | apply below_alloc | apply pw_below_drewN | apply below_drew1 | refine below_set ?_ ao.out | refine below_set ?_ ar.out | refine below_set ?_ ax.out) | exact HB.out))⟩)
          ·skip
           refine box_step ?hg (N := 6) ?hd (cs := #[.int .u32 0, .int .i64 0]) (t := 24) ?hr ?_; (case hd => rfl); (case hg => rfl); (case hr => first | (go_simp; done) | (go_simp; rfl))
           intro ae hg w19 hbox hb
           have n0_ := Aside0.mk (blk_below (g := aa) (by (with_reducible repeat (first | refine blk_drewN ?_ _ | refine blk_drew ?_ | refine blk_alloc ?_ _)); exact ab.out) hb)
           have n1_ := Aside0.mk (blk_below (g := ad) (by (with_reducible repeat (first | refine blk_drewN ?_ _ | refine blk_drew ?_ | refine blk_alloc ?_ _)); exact af.out) hb)
           have n2_ := Aside0.mk (below_step (by repeat (first | (with_reducible first | exact HB.out | apply below_alloc | apply pw_below_drewN | apply below_drew1 | refine below_set ?_ ao.out | refine below_set ?_ ar.out) | exact HB.out)) hb)
           have n3_ := Aside0.mk (hbox)
           have n4_ := Aside0.mk ((by rw [hg]; exact (below_size (by repeat (first | (with_reducible first | exact HB.out | apply below_alloc | apply pw_below_drewN | apply below_drew1 | refine below_set ?_ ao.out | refine below_set ?_ ar.out) | exact HB.out))) : w.heap.size ≤ ae))
           have n5_ := Aside0.mk ((by rw [hg]; exact (below_size (by repeat (first | (with_reducible first | exact HB.out | apply below_alloc | apply pw_below_drewN | apply below_drew1 | refine below_set ?_ ao.out | refine below_set ?_ ar.out) | exact HB.out))) : w.heap.size ≤ ae))
           have n6_ := Aside0.mk ((by rw [hg]; exact Nat.ne_of_lt (blk_lt (g := aa) (o := .cells #[.int .u32 aj, .int .i64 ai] 24 (0, 0)) (by (with_reducible repeat (first | refine blk_drewN ?_ _ | refine blk_drew ?_ | refine blk_alloc ?_ _)); exact ab.out)) : aa ≠ ae))
           have n7_ := Aside0.mk ((by rw [hg]; exact Nat.ne_of_gt (blk_lt (g := aa) (o := .cells #[.int .u32 aj, .int .i64 ai] 24 (0, 0)) (by (with_reducible repeat (first | refine blk_drewN ?_ _ | refine blk_drew ?_ | refine blk_alloc ?_ _)); exact ab.out)) : ae ≠ aa))
           have n8_ := Aside0.mk ((by rw [hg]; exact Nat.ne_of_lt (blk_lt (g := ad) (o := .cells #[.int .u32 a5, .int .i64 a4] 24 (0, 0)) (by (with_reducible repeat (first | refine blk_drewN ?_ _ | refine blk_drew ?_ | refine blk_alloc ?_ _)); exact af.out)) : ad ≠ ae))
           have n9_ := Aside0.mk ((by rw [hg]; exact Nat.ne_of_gt (blk_lt (g := ad) (o := .cells #[.int .u32 a5, .int .i64 a4] 24 (0, 0)) (by (with_reducible repeat (first | refine blk_drewN ?_ _ | refine blk_drew ?_ | refine blk_alloc ?_ _)); exact af.out)) : ae ≠ ad))
           clear ab
           clear af
           clear HB
           have ab := n0_
           have af := n1_
           have HB := n2_
           have ay := n3_
           have a7 := n4_
           have az := n5_
           have ah := n6_
           have an := n7_
           have ap := n8_
           have aq := n9_
           clear n0_ n1_ n2_ n3_ n4_ n5_ n6_ n7_ n8_ n9_
           clear hb hbox hg
           refine hK.out _ _ (k4592.b2e ab.out) (fun hHeld => ?_)
           clear hK K
           refine norm_ (a' := ?_) ?_ ?_
           rotate_left
           ·show Act.put _ (some 6) _ = _
            simp only [Act.put, List.setIfInBounds_toArray, List.set_cons_zero, List.set_cons_succ, i64_w]
            rfl
           exact norm_ (by first | (simp only [putAll, Act.put, List.setIfInBounds_toArray, List.set_cons_zero, List.set_cons_succ]; done) | (simp only [putAll, Act.put, List.setIfInBounds_toArray, List.set_cons_zero, List.set_cons_succ]; rfl)) (hJ5_11_16 (ae) _ ⟨hHeld, (by (with_reducible repeat (first | refine blk_drewN ?_ _ | refine blk_drew ?_ | refine blk_alloc ?_ _)); exact ab.out), (by (with_reducible repeat (first | refine blk_drewN ?_ _ | refine blk_drew ?_ | refine blk_alloc ?_ _)); exact af.out), (by (with_reducible repeat (first | refine blk_drewN ?_ _ | refine blk_drew ?_ | refine blk_alloc ?_ _)); exact ay.out), a7.out, az.out, ah.out, an.out, ap.out, aq.out, (by repeat (first | (with_reducible first | exact HB.out | apply below_alloc | apply pw_below_drewN | apply below_drew1 | refine below_set ?_ ao.out | refine below_set ?_ ar.out | refine below_set ?_ az.out) | exact HB.out))⟩)
        ·skip
         rintro ⟨ac, ae⟩ w19 ⟨hS_, h0_, h1_, h2_, h3_, h4_, h5_, h6_, h7_, h8_, h9_, h10_, h11_, h12_, h13_, h14_, h15_, h16_, h17_, h18_⟩
         have n0_ : Aside0 (w19.heap[aa]? = some (.cells #[.int .u32 aj, .int .i64 ai] 24 (0, 0))) := ⟨h0_⟩
         have n1_ : Aside0 (w19.heap[ad]? = some (.cells #[.int .u32 a5, .int .i64 a4] 24 (0, 0))) := ⟨h1_⟩
         have n2_ : Aside0 (w19.heap[ac]? = some (.cells #[.int .u32 0, .int .i64 0] 24 (0, 0))) := ⟨h2_⟩
         have n3_ : Aside0 (w19.heap[ae]? = some (.cells #[.int .u32 0, .int .i64 0] 24 (0, 0))) := ⟨h3_⟩
         have n4_ : Aside0 (w.heap.size ≤ ac) := ⟨h4_⟩
         have n5_ : Aside0 (w.heap.size ≤ ac) := ⟨h5_⟩
         have n6_ : Aside0 (aa ≠ ac) := ⟨h6_⟩
         have n7_ : Aside0 (ac ≠ aa) := ⟨h7_⟩
         have n8_ : Aside0 (ad ≠ ac) := ⟨h8_⟩
         have n9_ : Aside0 (ac ≠ ad) := ⟨h9_⟩
         have n10_ : Aside0 (ae ≠ ac) := ⟨h10_⟩
         have n11_ : Aside0 (ac ≠ ae) := ⟨h11_⟩
         have n12_ : Aside0 (w.heap.size ≤ ae) := ⟨h12_⟩
         have n13_ : Aside0 (w.heap.size ≤ ae) := ⟨h13_⟩
         have n14_ : Aside0 (aa ≠ ae) := ⟨h14_⟩
         have n15_ : Aside0 (ae ≠ aa) := ⟨h15_⟩
         have n16_ : Aside0 (ad ≠ ae) := ⟨h16_⟩
         have n17_ : Aside0 (ae ≠ ad) := ⟨h17_⟩
         have n18_ : Aside0 (Below w.heap.size w w19) := ⟨h18_⟩
         clear ab
         clear af
         clear HB
         clear h0_ h1_ h2_ h3_ h4_ h5_ h6_ h7_ h8_ h9_ h10_ h11_ h12_ h13_ h14_ h15_ h16_ h17_ h18_
         have ab := n0_
         have af := n1_
         have au := n2_
         have ay := n3_
         have a6 := n4_
         have ax := n5_
         have ag := n6_
         have ak := n7_
         have al := n8_
         have am := n9_
         have av := n10_
         have aw := n11_
         have a7 := n12_
         have az := n13_
         have ah := n14_
         have an := n15_
         have ap := n16_
         have aq := n17_
         have HB := n18_
         clear n0_ n1_ n2_ n3_ n4_ n5_ n6_ n7_ n8_ n9_ n10_ n11_ n12_ n13_ n14_ n15_ n16_ n17_ n18_
         have hHeld : w19.cell? ⟨aa, 0, none⟩ = some (.int .u32 aj) ∧ w19.cell? ⟨aa, 1, none⟩ = some (.int .i64 ai) := hS_
         refine norm_ (a' := ?_) ?_ ?_
         rotate_left
         ·simp only [putAll, Act.put, List.setIfInBounds_toArray, List.set_cons_zero, List.set_cons_succ]
          rfl
         refine one_ (i := 11) (N := some 29) #[true, true, true, true, true, true, true, true, true, true, true, true, false, false, false, true, true, false, false] rfl rfl (one_of HT_.out (by kernel_rfl)) (by decide) (fun K hK => ?_)
         refine goes_ Tryd.func43 (by kernel_rfl) rfl #[.agg #[.int .u32 (Go.bits .and .u32 aj t126), .int .i64 (wrap64 (ai - 1))]] (by rfl) rfl rfl (by (try simp only [List.map_toArray, List.map_cons, List.map_nil]); first | done | rfl) ?_
         with_reducible refine (addr_halves.calls (Go.bits .and .u32 aj t126) (wrap64 (ai - 1)) t127 t128 t129 t130 _ ba.out).mono ?_
         rintro e w20 ⟨rfl, hb⟩
         refine ⟨_, rfl, ?_⟩
         replace ab := Aside0.mk (blk_below (g := aa) (by (with_reducible repeat (first | refine blk_drewN ?_ _ | refine blk_drew ?_ | refine blk_alloc ?_ _)); exact ab.out) hb)
         replace af := Aside0.mk (blk_below (g := ad) (by (with_reducible repeat (first | refine blk_drewN ?_ _ | refine blk_drew ?_ | refine blk_alloc ?_ _)); exact af.out) hb)
         replace au := Aside0.mk (blk_below (g := ac) (by (with_reducible repeat (first | refine blk_drewN ?_ _ | refine blk_drew ?_ | refine blk_alloc ?_ _)); exact au.out) hb)
         replace ay := Aside0.mk (blk_below (g := ae) (by (with_reducible repeat (first | refine blk_drewN ?_ _ | refine blk_drew ?_ | refine blk_alloc ?_ _)); exact ay.out) hb)
         replace HB := Aside0.mk (below_step (by repeat (first | (with_reducible first | exact HB.out | apply below_alloc | apply pw_below_drewN | apply below_drew1 | refine below_set ?_ ao.out | refine below_set ?_ ar.out | refine below_set ?_ ax.out | refine below_set ?_ az.out) | exact HB.out)) hb)
         (try clear hb)
         (try clear hb2)
         (try clear hk)
         (try clear hi)
         refine hK.out _ _ (k4592.b2e ab.out) (fun hHeld => ?_)
         clear hK K
         refine norm_ (a' := ?_) ?_ ?_
         rotate_left
         ·show Act.put _ (some 29) _ = _
          simp only [Act.put, List.setIfInBounds_toArray, List.set_cons_zero, List.set_cons_succ, i64_w]
          rfl
         refine pure_ (i := 12) (N := some 17) (v := ?_) (a' := ?_) #[true, true, true, true, true, true, true, true, true, true, true, true, true, false, false, true, true, false, false] rfl rfl (any_of HT_.out (by kernel_rfl)) (fun _ _ _ h => h) (Or.inl ⟨by rfl, ?_⟩) ?_ ?_
         rotate_left
         ·intro w'
          go_simp
          with_reducible rfl
         rotate_left
         ·simp only [Act.put, List.setIfInBounds_toArray, List.set_cons_zero, List.set_cons_succ, i64_w]
          rfl
         refine pure_ (i := 13) (N := some 30) (v := ?_) (a' := ?_) #[true, true, true, true, true, true, true, true, true, true, true, true, true, true, false, true, true, false, false] rfl rfl (any_of HT_.out (by kernel_rfl)) (fun _ _ _ h => h) (Or.inl ⟨by rfl, ?_⟩) ?_ ?_
         rotate_left
         ·intro w'
          go_simp
          with_reducible rfl
         rotate_left
         ·simp only [Act.put, List.setIfInBounds_toArray, List.set_cons_zero, List.set_cons_succ, i64_w]
          rfl
         refine pure_ (i := 14) (N := some 31) (v := ?_) (a' := ?_) #[true, true, true, true, true, true, true, true, true, true, true, true, true, true, true, true, true, false, false] rfl rfl (any_of HT_.out (by kernel_rfl)) (fun _ _ _ h => h) (Or.inl ⟨by rfl, ?_⟩) ?_ ?_
         rotate_left
         ·intro w'
          go_simp
          with_reducible rfl
         rotate_left
         ·simp only [Act.put, List.setIfInBounds_toArray, List.set_cons_zero, List.set_cons_succ, i64_w]
          rfl
         exact norm_ (by first | (simp only [putAll, Act.put, List.setIfInBounds_toArray, List.set_cons_zero, List.set_cons_succ]; done) | (simp only [putAll, Act.put, List.setIfInBounds_toArray, List.set_cons_zero, List.set_cons_succ]; rfl)) (hJ5_11_15_16 (ac, ae) _ ⟨hHeld, (by (with_reducible repeat (first | refine blk_drewN ?_ _ | refine blk_drew ?_ | refine blk_alloc ?_ _)); exact ab.out), (by (with_reducible repeat (first | refine blk_drewN ?_ _ | refine blk_drew ?_ | refine blk_alloc ?_ _)); exact af.out), (by (with_reducible repeat (first | refine blk_drewN ?_ _ | refine blk_drew ?_ | refine blk_alloc ?_ _)); exact au.out), (by (with_reducible repeat (first | refine blk_drewN ?_ _ | refine blk_drew ?_ | refine blk_alloc ?_ _)); exact ay.out), a6.out, ax.out, ag.out, ak.out, al.out, am.out, av.out, aw.out, a7.out, az.out, ah.out, an.out, ap.out, aq.out, (by repeat (first | (with_reducible first | exact HB.out | apply below_alloc | apply pw_below_drewN | apply below_drew1 | refine below_set ?_ ao.out | refine below_set ?_ ar.out | refine below_set ?_ ax.out | refine below_set ?_ az.out) | exact HB.out))⟩)
       ·skip
        rintro ae w19 ⟨hS_, h0_, h1_, h2_, h3_, h4_, h5_, h6_, h7_, h8_, h9_⟩
        have n0_ : Aside0 (w19.heap[aa]? = some (.cells #[.int .u32 aj, .int .i64 ai] 24 (0, 0))) := ⟨h0_⟩
        have n1_ : Aside0 (w19.heap[ad]? = some (.cells #[.int .u32 a5, .int .i64 a4] 24 (0, 0))) := ⟨h1_⟩
        have n2_ : Aside0 (w19.heap[ae]? = some (.cells #[.int .u32 0, .int .i64 0] 24 (0, 0))) := ⟨h2_⟩
        have n3_ : Aside0 (w.heap.size ≤ ae) := ⟨h3_⟩
        have n4_ : Aside0 (w.heap.size ≤ ae) := ⟨h4_⟩
        have n5_ : Aside0 (aa ≠ ae) := ⟨h5_⟩
        have n6_ : Aside0 (ae ≠ aa) := ⟨h6_⟩
        have n7_ : Aside0 (ad ≠ ae) := ⟨h7_⟩
        have n8_ : Aside0 (ae ≠ ad) := ⟨h8_⟩
        have n9_ : Aside0 (Below w.heap.size w w19) := ⟨h9_⟩
        clear ab
        clear af
        clear HB
        clear h0_ h1_ h2_ h3_ h4_ h5_ h6_ h7_ h8_ h9_
        have ab := n0_
        have af := n1_
        have ay := n2_
        have a7 := n3_
        have az := n4_
        have ah := n5_
        have an := n6_
        have ap := n7_
        have aq := n8_
        have HB := n9_
        clear n0_ n1_ n2_ n3_ n4_ n5_ n6_ n7_ n8_ n9_
        have hHeld : w19.cell? ⟨aa, 0, none⟩ = some (.int .u32 aj) ∧ w19.cell? ⟨aa, 1, none⟩ = some (.int .i64 ai) := hS_
        refine norm_ (a' := ?_) ?_ ?_
        rotate_left
        ·simp only [putAll, Act.put, List.setIfInBounds_toArray, List.set_cons_zero, List.set_cons_succ]
         rfl
        refine one_ (i := 15) (N := some 5) #[true, true, true, true, true, true, true, true, true, true, true, true, true, true, true, true, true, false, false] rfl rfl (one_of HT_.out (by kernel_rfl)) (by decide) (fun K hK => ?_)
        refine box_step ?hg (N := 5) ?hd (cs := #[.int .u32 0, .int .i64 0]) (t := 24) ?hr ?_; (case hd => rfl); (case hg => rfl); (case hr => first | (go_simp; done) | (go_simp; rfl))
        intro ac hg w20 hbox hb
        have n0_ := Aside0.mk (blk_below (g := aa) (by (with_reducible repeat (first | refine blk_drewN ?_ _ | refine blk_drew ?_ | refine blk_alloc ?_ _)); exact ab.out) hb)
        have n1_ := Aside0.mk (blk_below (g := ad) (by (with_reducible repeat (first | refine blk_drewN ?_ _ | refine blk_drew ?_ | refine blk_alloc ?_ _)); exact af.out) hb)
        have n2_ := Aside0.mk (blk_below (g := ae) (by (with_reducible repeat (first | refine blk_drewN ?_ _ | refine blk_drew ?_ | refine blk_alloc ?_ _)); exact ay.out) hb)
        have n3_ := Aside0.mk (below_step (by repeat (first | (with_reducible first | exact HB.out | apply below_alloc | apply pw_below_drewN | apply below_drew1 | refine below_set ?_ ao.out | refine below_set ?_ ar.out | refine below_set ?_ az.out) | exact HB.out)) hb)
        have n4_ := Aside0.mk (hbox)
        have n5_ := Aside0.mk ((by rw [hg]; exact (below_size (by repeat (first | (with_reducible first | exact HB.out | apply below_alloc | apply pw_below_drewN | apply below_drew1 | refine below_set ?_ ao.out | refine below_set ?_ ar.out | refine below_set ?_ az.out) | exact HB.out))) : w.heap.size ≤ ac))
        have n6_ := Aside0.mk ((by rw [hg]; exact (below_size (by repeat (first | (with_reducible first | exact HB.out | apply below_alloc | apply pw_below_drewN | apply below_drew1 | refine below_set ?_ ao.out | refine below_set ?_ ar.out | refine below_set ?_ az.out) | exact HB.out))) : w.heap.size ≤ ac))
        have n7_ := Aside0.mk ((by rw [hg]; exact Nat.ne_of_lt (blk_lt (g := aa) (o := .cells #[.int .u32 aj, .int .i64 ai] 24 (0, 0)) (by (with_reducible repeat (first | refine blk_drewN ?_ _ | refine blk_drew ?_ | refine blk_alloc ?_ _)); exact ab.out)) : aa ≠ ac))
        have n8_ := Aside0.mk ((by rw [hg]; exact Nat.ne_of_gt (blk_lt (g := aa) (o := .cells #[.int .u32 aj, .int .i64 ai] 24 (0, 0)) (by (with_reducible repeat (first | refine blk_drewN ?_ _ | refine blk_drew ?_ | refine blk_alloc ?_ _)); exact ab.out)) : ac ≠ aa))
        have n9_ := Aside0.mk ((by rw [hg]; exact Nat.ne_of_lt (blk_lt (g := ad) (o := .cells #[.int .u32 a5, .int .i64 a4] 24 (0, 0)) (by (with_reducible repeat (first | refine blk_drewN ?_ _ | refine blk_drew ?_ | refine blk_alloc ?_ _)); exact af.out)) : ad ≠ ac))
        have n10_ := Aside0.mk ((by rw [hg]; exact Nat.ne_of_gt (blk_lt (g := ad) (o := .cells #[.int .u32 a5, .int .i64 a4] 24 (0, 0)) (by (with_reducible repeat (first | refine blk_drewN ?_ _ | refine blk_drew ?_ | refine blk_alloc ?_ _)); exact af.out)) : ac ≠ ad))
        have n11_ := Aside0.mk ((by rw [hg]; exact Nat.ne_of_lt (blk_lt (g := ae) (o := .cells #[.int .u32 0, .int .i64 0] 24 (0, 0)) (by (with_reducible repeat (first | refine blk_drewN ?_ _ | refine blk_drew ?_ | refine blk_alloc ?_ _)); exact ay.out)) : ae ≠ ac))
        have n12_ := Aside0.mk ((by rw [hg]; exact Nat.ne_of_gt (blk_lt (g := ae) (o := .cells #[.int .u32 0, .int .i64 0] 24 (0, 0)) (by (with_reducible repeat (first | refine blk_drewN ?_ _ | refine blk_drew ?_ | refine blk_alloc ?_ _)); exact ay.out)) : ac ≠ ae))
        clear ab
        clear af
        clear ay
        clear HB
        have ab := n0_
        have af := n1_
        have ay := n2_
        have HB := n3_
        have au := n4_
        have a6 := n5_
        have ax := n6_
        have ag := n7_
        have ak := n8_
        have al := n9_
        have am := n10_
        have av := n11_
        have aw := n12_
        clear n0_ n1_ n2_ n3_ n4_ n5_ n6_ n7_ n8_ n9_ n10_ n11_ n12_
        clear hb hbox hg
        refine hK.out _ _ (k4592.b2e ab.out) (fun hHeld => ?_)
        clear hK K
        refine norm_ (a' := ?_) ?_ ?_
        rotate_left
        ·show Act.put _ (some 5) _ = _
         simp only [Act.put, List.setIfInBounds_toArray, List.set_cons_zero, List.set_cons_succ, i64_w]
         rfl
        exact norm_ (by first | (simp only [putAll, Act.put, List.setIfInBounds_toArray, List.set_cons_zero, List.set_cons_succ]; done) | (simp only [putAll, Act.put, List.setIfInBounds_toArray, List.set_cons_zero, List.set_cons_succ]; rfl)) (hJ5_11_15_16 (ac, ae) _ ⟨hHeld, (by (with_reducible repeat (first | refine blk_drewN ?_ _ | refine blk_drew ?_ | refine blk_alloc ?_ _)); exact ab.out), (by (with_reducible repeat (first | refine blk_drewN ?_ _ | refine blk_drew ?_ | refine blk_alloc ?_ _)); exact af.out), (by (with_reducible repeat (first | refine blk_drewN ?_ _ | refine blk_drew ?_ | refine blk_alloc ?_ _)); exact au.out), (by (with_reducible repeat (first | refine blk_drewN ?_ _ | refine blk_drew ?_ | refine blk_alloc ?_ _)); exact ay.out), a6.out, ax.out, ag.out, ak.out, al.out, am.out, av.out, aw.out, a7.out, az.out, ah.out, an.out, ap.out, aq.out, (by repeat (first | (with_reducible first | exact HB.out | apply below_alloc | apply pw_below_drewN | apply below_drew1 | refine below_set ?_ ao.out | refine below_set ?_ ar.out | refine below_set ?_ az.out | refine below_set ?_ ax.out) | exact HB.out))⟩)
      ·skip
       rintro ac w19 ⟨hS_, h0_, h1_, h2_, h3_, h4_, h5_, h6_, h7_, h8_, h9_⟩
       have n0_ : Aside0 (w19.heap[aa]? = some (.cells #[.int .u32 aj, .int .i64 ai] 24 (0, 0))) := ⟨h0_⟩
       have n1_ : Aside0 (w19.heap[ad]? = some (.cells #[.int .u32 a5, .int .i64 a4] 24 (0, 0))) := ⟨h1_⟩
       have n2_ : Aside0 (w19.heap[ac]? = some (.cells #[.int .u32 0, .int .i64 0] 24 (0, 0))) := ⟨h2_⟩
       have n3_ : Aside0 (w.heap.size ≤ ac) := ⟨h3_⟩
       have n4_ : Aside0 (w.heap.size ≤ ac) := ⟨h4_⟩
       have n5_ : Aside0 (aa ≠ ac) := ⟨h5_⟩
       have n6_ : Aside0 (ac ≠ aa) := ⟨h6_⟩
       have n7_ : Aside0 (ad ≠ ac) := ⟨h7_⟩
       have n8_ : Aside0 (ac ≠ ad) := ⟨h8_⟩
       have n9_ : Aside0 (Below w.heap.size w w19) := ⟨h9_⟩
       clear ab
       clear af
       clear HB
       clear h0_ h1_ h2_ h3_ h4_ h5_ h6_ h7_ h8_ h9_
       have ab := n0_
       have af := n1_
       have au := n2_
       have a6 := n3_
       have ax := n4_
       have ag := n5_
       have ak := n6_
       have al := n7_
       have am := n8_
       have HB := n9_
       clear n0_ n1_ n2_ n3_ n4_ n5_ n6_ n7_ n8_ n9_
       have hHeld : w19.cell? ⟨aa, 0, none⟩ = some (.int .u32 aj) ∧ w19.cell? ⟨aa, 1, none⟩ = some (.int .i64 ai) := hS_
       refine norm_ (a' := ?_) ?_ ?_
       rotate_left
       ·simp only [putAll, Act.put, List.setIfInBounds_toArray, List.set_cons_zero, List.set_cons_succ]
        rfl
       refine one_ (i := 16) (N := some 6) #[true, true, true, true, true, true, true, true, true, true, true, true, true, true, true, true, true, false, false] rfl rfl (one_of HT_.out (by kernel_rfl)) (by decide) (fun K hK => ?_)
       refine box_step ?hg (N := 6) ?hd (cs := #[.int .u32 0, .int .i64 0]) (t := 24) ?hr ?_; (case hd => rfl); (case hg => rfl); (case hr => first | (go_simp; done) | (go_simp; rfl))
       intro ae hg w20 hbox hb
       have n0_ := Aside0.mk (blk_below (g := aa) (by (with_reducible repeat (first | refine blk_drewN ?_ _ | refine blk_drew ?_ | refine blk_alloc ?_ _)); exact ab.out) hb)
       have n1_ := Aside0.mk (blk_below (g := ad) (by (with_reducible repeat (first | refine blk_drewN ?_ _ | refine blk_drew ?_ | refine blk_alloc ?_ _)); exact af.out) hb)
       have n2_ := Aside0.mk (blk_below (g := ac) (by (with_reducible repeat (first | refine blk_drewN ?_ _ | refine blk_drew ?_ | refine blk_alloc ?_ _)); exact au.out) hb)
       have n3_ := Aside0.mk (below_step (by repeat (first | (with_reducible first | exact HB.out | apply below_alloc | apply pw_below_drewN | apply below_drew1 | refine below_set ?_ ao.out | refine below_set ?_ ar.out | refine below_set ?_ ax.out) | exact HB.out)) hb)
       have n4_ := Aside0.mk (hbox)
       have n5_ := Aside0.mk ((by rw [hg]; exact (below_size (by repeat (first | (with_reducible first | exact HB.out | apply below_alloc | apply pw_below_drewN | apply below_drew1 | refine below_set ?_ ao.out | refine below_set ?_ ar.out | refine below_set ?_ ax.out) | exact HB.out))) : w.heap.size ≤ ae))
       have n6_ := Aside0.mk ((by rw [hg]; exact (below_size (by repeat (first | (with_reducible first | exact HB.out | apply below_alloc | apply pw_below_drewN | apply below_drew1 | refine below_set ?_ ao.out | refine below_set ?_ ar.out | refine below_set ?_ ax.out) | exact HB.out))) : w.heap.size ≤ ae))
       have n7_ := Aside0.mk ((by rw [hg]; exact Nat.ne_of_lt (blk_lt (g := aa) (o := .cells #[.int .u32 aj, .int .i64 ai] 24 (0, 0)) (by (with_reducible repeat (first | refine blk_drewN ?_ _ | refine blk_drew ?_ | refine blk_alloc ?_ _)); exact ab.out)) : aa ≠ ae))
       have n8_ := Aside0.mk ((by rw [hg]; exact Nat.ne_of_gt (blk_lt (g := aa) (o := .cells #[.int .u32 aj, .int .i64 ai] 24 (0, 0)) (by (with_reducible repeat (first | refine blk_drewN ?_ _ | refine blk_drew ?_ | refine blk_alloc ?_ _)); exact ab.out)) : ae ≠ aa))
       have n9_ := Aside0.mk ((by rw [hg]; exact Nat.ne_of_lt (blk_lt (g := ad) (o := .cells #[.int .u32 a5, .int .i64 a4] 24 (0, 0)) (by (with_reducible repeat (first | refine blk_drewN ?_ _ | refine blk_drew ?_ | refine blk_alloc ?_ _)); exact af.out)) : ad ≠ ae))
       have n10_ := Aside0.mk ((by rw [hg]; exact Nat.ne_of_gt (blk_lt (g := ad) (o := .cells #[.int .u32 a5, .int .i64 a4] 24 (0, 0)) (by (with_reducible repeat (first | refine blk_drewN ?_ _ | refine blk_drew ?_ | refine blk_alloc ?_ _)); exact af.out)) : ae ≠ ad))
       have n11_ := Aside0.mk ((by rw [hg]; exact Nat.ne_of_lt (blk_lt (g := ac) (o := .cells #[.int .u32 0, .int .i64 0] 24 (0, 0)) (by (with_reducible repeat (first | refine blk_drewN ?_ _ | refine blk_drew ?_ | refine blk_alloc ?_ _)); exact au.out)) : ac ≠ ae))
       have n12_ := Aside0.mk ((by rw [hg]; exact Nat.ne_of_gt (blk_lt (g := ac) (o := .cells #[.int .u32 0, .int .i64 0] 24 (0, 0)) (by (with_reducible repeat (first | refine blk_drewN ?_ _ | refine blk_drew ?_ | refine blk_alloc ?_ _)); exact au.out)) : ae ≠ ac))
       clear ab
       clear af
       clear au
       clear HB
       have ab := n0_
       have af := n1_
       have au := n2_
       have HB := n3_
       have ay := n4_
       have a7 := n5_
       have az := n6_
       have ah := n7_
       have an := n8_
       have ap := n9_
       have aq := n10_
       have aw := n11_
       have av := n12_
       clear n0_ n1_ n2_ n3_ n4_ n5_ n6_ n7_ n8_ n9_ n10_ n11_ n12_
       clear hb hbox hg
       refine hK.out _ _ (k4592.b2e ab.out) (fun hHeld => ?_)
       clear hK K
       refine norm_ (a' := ?_) ?_ ?_
       rotate_left
       ·show Act.put _ (some 6) _ = _
        simp only [Act.put, List.setIfInBounds_toArray, List.set_cons_zero, List.set_cons_succ, i64_w]
        rfl
       exact norm_ (by first | (simp only [putAll, Act.put, List.setIfInBounds_toArray, List.set_cons_zero, List.set_cons_succ]; done) | (simp only [putAll, Act.put, List.setIfInBounds_toArray, List.set_cons_zero, List.set_cons_succ]; rfl)) (hJ5_11_15_16 (ac, ae) _ ⟨hHeld, (by (with_reducible repeat (first | refine blk_drewN ?_ _ | refine blk_drew ?_ | refine blk_alloc ?_ _)); exact ab.out), (by (with_reducible repeat (first | refine blk_drewN ?_ _ | refine blk_drew ?_ | refine blk_alloc ?_ _)); exact af.out), (by (with_reducible repeat (first | refine blk_drewN ?_ _ | refine blk_drew ?_ | refine blk_alloc ?_ _)); exact au.out), (by (with_reducible repeat (first | refine blk_drewN ?_ _ | refine blk_drew ?_ | refine blk_alloc ?_ _)); exact ay.out), a6.out, ax.out, ag.out, ak.out, al.out, am.out, av.out, aw.out, a7.out, az.out, ah.out, an.out, ap.out, aq.out, (by repeat (first | (with_reducible first | exact HB.out | apply below_alloc | apply pw_below_drewN | apply below_drew1 | refine below_set ?_ ao.out | refine below_set ?_ ar.out | refine below_set ?_ ax.out | refine below_set ?_ az.out) | exact HB.out))⟩)
     rintro ⟨ac, ae⟩ w20 ⟨hS_, h0_, h1_, h2_, h3_, h4_, h5_, h6_, h7_, h8_, h9_, h10_, h11_, h12_, h13_, h14_, h15_, h16_, h17_, h18_⟩
     have n0_ : Aside0 (w20.heap[aa]? = some (.cells #[.int .u32 aj, .int .i64 ai] 24 (0, 0))) := ⟨h0_⟩
     have n1_ : Aside0 (w20.heap[ad]? = some (.cells #[.int .u32 a5, .int .i64 a4] 24 (0, 0))) := ⟨h1_⟩
     have n2_ : Aside0 (w20.heap[ac]? = some (.cells #[.int .u32 0, .int .i64 0] 24 (0, 0))) := ⟨h2_⟩
     have n3_ : Aside0 (w20.heap[ae]? = some (.cells #[.int .u32 0, .int .i64 0] 24 (0, 0))) := ⟨h3_⟩
     have n4_ : Aside0 (w.heap.size ≤ ac) := ⟨h4_⟩
     have n5_ : Aside0 (w.heap.size ≤ ac) := ⟨h5_⟩
     have n6_ : Aside0 (aa ≠ ac) := ⟨h6_⟩
     have n7_ : Aside0 (ac ≠ aa) := ⟨h7_⟩
     have n8_ : Aside0 (ad ≠ ac) := ⟨h8_⟩
     have n9_ : Aside0 (ac ≠ ad) := ⟨h9_⟩
     have n10_ : Aside0 (ae ≠ ac) := ⟨h10_⟩
     have n11_ : Aside0 (ac ≠ ae) := ⟨h11_⟩
     have n12_ : Aside0 (w.heap.size ≤ ae) := ⟨h12_⟩
     have n13_ : Aside0 (w.heap.size ≤ ae) := ⟨h13_⟩
     have n14_ : Aside0 (aa ≠ ae) := ⟨h14_⟩
     have n15_ : Aside0 (ae ≠ aa) := ⟨h15_⟩
     have n16_ : Aside0 (ad ≠ ae) := ⟨h16_⟩
     have n17_ : Aside0 (ae ≠ ad) := ⟨h17_⟩
     have n18_ : Aside0 (Below w.heap.size w w20) := ⟨h18_⟩
     clear ab
     clear af
     clear HB
     clear h0_ h1_ h2_ h3_ h4_ h5_ h6_ h7_ h8_ h9_ h10_ h11_ h12_ h13_ h14_ h15_ h16_ h17_ h18_
     have ab := n0_
     have af := n1_
     have au := n2_
     have ay := n3_
     have a6 := n4_
     have ax := n5_
     have ag := n6_
     have ak := n7_
     have al := n8_
     have am := n9_
     have av := n10_
     have aw := n11_
     have a7 := n12_
     have az := n13_
     have ah := n14_
     have an := n15_
     have ap := n16_
     have aq := n17_
     have HB := n18_
     clear n0_ n1_ n2_ n3_ n4_ n5_ n6_ n7_ n8_ n9_ n10_ n11_ n12_ n13_ n14_ n15_ n16_ n17_ n18_
     have hHeld : w20.cell? ⟨aa, 0, none⟩ = some (.int .u32 aj) ∧ w20.cell? ⟨aa, 1, none⟩ = some (.int .i64 ai) := hS_
     refine norm_ (a' := ?_) ?_ ?_
     rotate_left
     ·simp only [putAll, Act.put, List.setIfInBounds_toArray, List.set_cons_zero, List.set_cons_succ]
      rfl
     refine one_ (i := 17) (N := none) #[true, true, true, true, true, true, true, true, true, true, true, true, true, true, true, true, true, true, false] rfl rfl (one_of HT_.out (by kernel_rfl)) (by decide) (fun K hK => ?_)
     have hs21 : w20.cell? ⟨ac, 0, none⟩ = some (.int .u32 0) := (blk_cell au.out 0).trans rfl
     have hfs21 := blk_frozen au.out 0
     have hns21_0 := ag.out
     have hns21_1 := al.out
     have hns21_3 := av.out
     have hms21_0 := ak.out
     have hms21_1 := am.out
     have hms21_3 := aw.out
     have hs22 : w20.cell? ⟨ac, 1, none⟩ = some (.int .i64 0) := (blk_cell au.out 1).trans rfl
     have hfs22 := blk_frozen au.out 1
     have hns22_0 := ag.out
     have hns22_1 := al.out
     have hns22_3 := av.out
     have hms22_0 := ak.out
     have hms22_1 := am.out
     have hms22_3 := aw.out
     refine skip_ (w1 := ?_) (by rfl) rfl ?_ ?_
     rotate_left
     ·go_simp
      rfl
     refine hK.out _ _ ⟨((cell_far (p := ⟨ac, _, none⟩) ag.out _).trans (((cell_far (p := ⟨ac, _, none⟩) ag.out _).trans (hHeld.1)))), ((cell_far (p := ⟨ac, _, none⟩) ag.out _).trans (((cell_far (p := ⟨ac, _, none⟩) ag.out _).trans (hHeld.2))))⟩ (fun hHeld => ?_)
     clear hK K
     refine one_ (i := 18) (N := none) #[true, true, true, true, true, true, true, true, true, true, true, true, true, true, true, true, true, true, true] rfl rfl (one_of HT_.out (by kernel_rfl)) (by decide) (fun K hK => ?_)
     have hs23 : w20.cell? ⟨ae, 0, none⟩ = some (.int .u32 0) := (blk_cell ay.out 0).trans rfl
     have hfs23 := blk_frozen ay.out 0
     have hns23_0 := ah.out
     have hns23_1 := ap.out
     have hns23_2 := aw.out
     have hms23_0 := an.out
     have hms23_1 := aq.out
     have hms23_2 := av.out
     have hs24 : w20.cell? ⟨ae, 1, none⟩ = some (.int .i64 0) := (blk_cell ay.out 1).trans rfl
     have hfs24 := blk_frozen ay.out 1
     have hns24_0 := ah.out
     have hns24_1 := ap.out
     have hns24_2 := aw.out
     have hms24_0 := an.out
     have hms24_1 := aq.out
     have hms24_2 := av.out
     refine skip_ (w1 := ?_) (by rfl) rfl ?_ ?_
     rotate_left
     ·go_simp
      rfl
     refine hK.out _ _ ⟨((cell_far (p := ⟨ae, _, none⟩) ah.out _).trans (((cell_far (p := ⟨ae, _, none⟩) ah.out _).trans (hHeld.1)))), ((cell_far (p := ⟨ae, _, none⟩) ah.out _).trans (((cell_far (p := ⟨ae, _, none⟩) ah.out _).trans (hHeld.2))))⟩ (fun hHeld => ?_)
     clear hK K
     refine done_ (done_of HT_.out (by kernel_rfl)) ?_
     have hnb25 := ak.out
     have hnc25 := ag.out
     have hnb26 := am.out
     have hnc26 := al.out
     have hnb27 := aw.out
     have hnc27 := av.out
     have hcz28_0 : w20.cell? ⟨ac, 0, none⟩ = some (.int .u32 0) := (blk_cell au.out 0).trans rfl
     have hcz28_1 : w20.cell? ⟨ac, 1, none⟩ = some (.int .i64 0) := (blk_cell au.out 1).trans rfl
     have hfz28_0 := blk_frozen au.out 0
     have hfz28_1 := blk_frozen au.out 1
     have hnb29 := NB124_125.out
     have hnc29 := NB125_124.out
     have hnb30 := ah.out
     have hnc30 := an.out
     have hcz31_0 : w20.cell? ⟨aa, 0, none⟩ = some (.int .u32 aj) := (blk_cell ab.out 0).trans rfl
     have hcz31_1 : w20.cell? ⟨aa, 1, none⟩ = some (.int .i64 ai) := (blk_cell ab.out 1).trans rfl
     have hfz31_0 := blk_frozen ab.out 0
     have hfz31_1 := blk_frozen ab.out 1
     have hnb32 := aq.out
     have hnc32 := ap.out
     have hcz33_0 : w20.cell? ⟨ae, 0, none⟩ = some (.int .u32 0) := (blk_cell ay.out 0).trans rfl
     have hcz33_1 : w20.cell? ⟨ae, 1, none⟩ = some (.int .i64 0) := (blk_cell ay.out 1).trans rfl
     have hfz33_0 := blk_frozen ay.out 0
     have hfz33_1 := blk_frozen ay.out 1
     have hcz34_0 : w20.cell? ⟨ad, 0, none⟩ = some (.int .u32 a5) := (blk_cell af.out 0).trans rfl
     have hcz34_1 : w20.cell? ⟨ad, 1, none⟩ = some (.int .i64 a4) := (blk_cell af.out 1).trans rfl
     have hfz34_0 := blk_frozen af.out 0
     have hfz34_1 := blk_frozen af.out 1
     try go_wp2
     go_ret
     exact ⟨by first | rfl | (simp [errW_none, errW_some] <;> rfl) | (simp [*, errW_none, errW_some] <;> rfl), by repeat (first | (with_reducible first | exact HB.out | apply below_alloc | apply pw_below_drewN | apply below_drew1 | refine below_set ?_ ao.out | refine below_set ?_ ar.out | refine below_set ?_ ax.out | refine below_set ?_ az.out) | exact HB.out)⟩
    ·rw [if_neg a8] at H
     have c15b0 : (t127 == aj && (t128 == ai)) = false := by simpa using a8
     (try (have c15b1 : decide (t127 = aj && (t128 == ai)) = false := by simpa using a8))
     (try (have c15b2 : (t127 == aj && (t128 == ai)) = false := by simpa using a8))
     (try (have c15b3 : ¬ (t127 = aj && (t128 == ai)) := by simpa using a8))
     clear a8
     obtain rfl := Option.some.inj H
     try go_wp2
     replace ab := Aside0.mk (blk_drew ab.out)
     replace af := Aside0.mk (blk_drew af.out)
     replace HB := Aside0.mk (below_drew1 HB.out)
     refine start_ (n := 19) (S := k4592.S0 aa (.int .u32 aj) (.int .i64 ai)) (ds := []) #[false, false, false, false, false, false, false, false, false, false, false, false, false, false, false, false, false, false, false] (by kernel_rfl) rfl rfl (k4592.b2e ab.out) (fun hHeld => ?_); refine with_tabW addr_sister.tab3 addr_sister.bits3 (fun HT_ HW_ => ?_)
     generalize wc.drew = w35 at ab af HB hHeld ⊢
     refine pure_ (i := 0) (N := some 18) (v := ?_) (a' := ?_) #[true, false, false, false, false, false, false, false, false, false, false, false, false, false, false, false, false, false, false] rfl rfl (any_of HT_.out (by kernel_rfl)) (fun _ _ _ h => h) (Or.inl ⟨by rfl, ?_⟩) ?_ ?_
     rotate_left
     ·intro w'
      go_simp
      with_reducible rfl
     rotate_left
     ·simp only [Act.put, List.setIfInBounds_toArray, List.set_cons_zero, List.set_cons_succ, i64_w]
      rfl
     refine pure_ (i := 2) (N := some 20) (v := ?_) (a' := ?_) #[true, false, true, false, false, false, false, false, false, false, false, false, false, false, false, false, false, false, false] rfl rfl (any_of HT_.out (by kernel_rfl)) (fun _ _ _ h => h) (Or.inl ⟨by rfl, ?_⟩) ?_ ?_
     rotate_left
     ·intro w'
      go_simp
      with_reducible rfl
     rotate_left
     ·simp only [Act.put, List.setIfInBounds_toArray, List.set_cons_zero, List.set_cons_succ, i64_w]
      rfl
     refine pure_ (i := 7) (N := some 25) (v := ?_) (a' := ?_) #[true, false, true, false, false, false, false, true, false, false, false, false, false, false, false, false, false, false, false] rfl rfl (any_of HT_.out (by kernel_rfl)) (fun _ _ _ h => h) (Or.inl ⟨by rfl, ?_⟩) ?_ ?_
     rotate_left
     ·intro w'
      go_simp
      with_reducible rfl
     rotate_left
     ·simp only [Act.put, List.setIfInBounds_toArray, List.set_cons_zero, List.set_cons_succ, i64_w]
      rfl
     refine take_ (i := 1) (N := some 19) (v := ?_) (a' := ?_) #[true, true, true, false, false, false, false, true, false, false, false, false, false, false, false, false, false, false, false] rfl rfl (take_ofW HT_.out HW_.out (by kernel_rfl)) (fun _ _ _ h => h) (Or.inl ⟨by rfl, ?_⟩) hHeld ?_ ?_
     rotate_left
     ·rintro w' ⟨s0, s1⟩
      go_simp
      with_reducible rfl
     rotate_left
     ·simp only [Act.put, List.setIfInBounds_toArray, List.set_cons_zero, List.set_cons_succ, i64_w]
      rfl
     refine take_ (i := 3) (N := some 21) (v := ?_) (a' := ?_) #[true, true, true, true, false, false, false, true, false, false, false, false, false, false, false, false, false, false, false] rfl rfl (take_ofW HT_.out HW_.out (by kernel_rfl)) (fun _ _ _ h => h) (Or.inl ⟨by rfl, ?_⟩) hHeld ?_ ?_
     rotate_left
     ·rintro w' ⟨s0, s1⟩
      go_simp
      with_reducible rfl
     rotate_left
     ·simp only [Act.put, List.setIfInBounds_toArray, List.set_cons_zero, List.set_cons_succ, i64_w]
      rfl
     refine pure_ (i := 4) (N := some 22) (v := ?_) (a' := ?_) #[true, true, true, true, true, false, false, true, false, false, false, false, false, false, false, false, false, false, false] rfl rfl (any_of HT_.out (by kernel_rfl)) (fun _ _ _ h => h) (Or.inl ⟨by rfl, ?_⟩) ?_ ?_
     rotate_left
     ·intro w'
      go_simp
      with_reducible rfl
     rotate_left
     ·simp only [Act.put, List.setIfInBounds_toArray, List.set_cons_zero, List.set_cons_succ, i64_w]
      rfl
     refine take_ (i := 8) (N := some 26) (v := ?_) (a' := ?_) #[true, true, true, true, true, false, false, true, true, false, false, false, false, false, false, false, false, false, false] rfl rfl (take_ofW HT_.out HW_.out (by kernel_rfl)) (fun _ _ _ h => h) (Or.inl ⟨by rfl, ?_⟩) hHeld ?_ ?_
     rotate_left
     ·rintro w' ⟨s0, s1⟩
      go_simp
      with_reducible rfl
     rotate_left
     ·simp only [Act.put, List.setIfInBounds_toArray, List.set_cons_zero, List.set_cons_succ, i64_w]
      rfl
     refine pure_ (i := 9) (N := some 27) (v := ?_) (a' := ?_) #[true, true, true, true, true, false, false, true, true, true, false, false, false, false, false, false, false, false, false] rfl rfl (any_of HT_.out (by kernel_rfl)) (fun _ _ _ h => h) (Or.inl ⟨by rfl, ?_⟩) ?_ ?_
     rotate_left
     ·intro w'
      go_simp
      with_reducible rfl
     rotate_left
     ·simp only [Act.put, List.setIfInBounds_toArray, List.set_cons_zero, List.set_cons_succ, i64_w]
      rfl
     refine join_ (σ := Nat × Nat) 2 #[true, true, true, true, true, true, true, true, true, true, true, true, true, true, true, true, true, false, false] (fun s_ => [(23, .int .u32 t126), (29, .tuple #[.agg #[.int .u32 t127, .int .i64 t128], .agg #[.int .u32 t129, .int .i64 t130]]), (5, .pointer (some ⟨s_.1, 0, none⟩)), (6, .pointer (some ⟨s_.2, 0, none⟩)), (24, .int .u32 (Go.bits .and .u32 aj t126)), (28, .agg #[.int .u32 (Go.bits .and .u32 aj t126), .int .i64 (wrap64 (ai - 1))]), (17, .tuple #[.agg #[.int .u32 t127, .int .i64 t128], .agg #[.int .u32 t129, .int .i64 t130]]), (30, .agg #[.int .u32 t127, .int .i64 t128]), (31, .agg #[.int .u32 t129, .int .i64 t130])]) (fun s_ w' => (w'.cell? ⟨aa, 0, none⟩ = some (.int .u32 aj) ∧ w'.cell? ⟨aa, 1, none⟩ = some (.int .i64 ai)) ∧ (w'.heap[aa]? = some (.cells #[.int .u32 aj, .int .i64 ai] 24 (0, 0))) ∧ (w'.heap[ad]? = some (.cells #[.int .u32 a5, .int .i64 a4] 24 (0, 0))) ∧ (w'.heap[s_.1]? = some (.cells #[.int .u32 0, .int .i64 0] 24 (0, 0))) ∧ (w'.heap[s_.2]? = some (.cells #[.int .u32 0, .int .i64 0] 24 (0, 0))) ∧ (w.heap.size ≤ s_.1) ∧ (w.heap.size ≤ s_.1) ∧ (aa ≠ s_.1) ∧ (s_.1 ≠ aa) ∧ (ad ≠ s_.1) ∧ (s_.1 ≠ ad) ∧ (s_.2 ≠ s_.1) ∧ (s_.1 ≠ s_.2) ∧ (w.heap.size ≤ s_.2) ∧ (w.heap.size ≤ s_.2) ∧ (aa ≠ s_.2) ∧ (s_.2 ≠ aa) ∧ (ad ≠ s_.2) ∧ (s_.2 ≠ ad) ∧ (Below w.heap.size w w')) ?_ ?_
     rotate_left
     ·intro hJ5_11_15_16
      refine join_ (σ := Nat) 3 #[true, true, true, true, true, true, true, true, true, true, true, true, true, true, true, true, false, false, false] (fun s_ => [(23, .int .u32 t126), (29, .tuple #[.agg #[.int .u32 t127, .int .i64 t128], .agg #[.int .u32 t129, .int .i64 t130]]), (5, .pointer (some ⟨s_, 0, none⟩)), (24, .int .u32 (Go.bits .and .u32 aj t126)), (28, .agg #[.int .u32 (Go.bits .and .u32 aj t126), .int .i64 (wrap64 (ai - 1))]), (17, .tuple #[.agg #[.int .u32 t127, .int .i64 t128], .agg #[.int .u32 t129, .int .i64 t130]]), (30, .agg #[.int .u32 t127, .int .i64 t128]), (31, .agg #[.int .u32 t129, .int .i64 t130])]) (fun s_ w' => (w'.cell? ⟨aa, 0, none⟩ = some (.int .u32 aj) ∧ w'.cell? ⟨aa, 1, none⟩ = some (.int .i64 ai)) ∧ (w'.heap[aa]? = some (.cells #[.int .u32 aj, .int .i64 ai] 24 (0, 0))) ∧ (w'.heap[ad]? = some (.cells #[.int .u32 a5, .int .i64 a4] 24 (0, 0))) ∧ (w'.heap[s_]? = some (.cells #[.int .u32 0, .int .i64 0] 24 (0, 0))) ∧ (w.heap.size ≤ s_) ∧ (w.heap.size ≤ s_) ∧ (aa ≠ s_) ∧ (s_ ≠ aa) ∧ (ad ≠ s_) ∧ (s_ ≠ ad) ∧ (Below w.heap.size w w')) ?_ ?_
      rotate_left
      ·intro hJ5_11_15
       refine join_ (σ := Nat) 3 #[true, true, true, true, true, true, true, true, true, true, true, true, true, true, true, false, true, false, false] (fun s_ => [(23, .int .u32 t126), (29, .tuple #[.agg #[.int .u32 t127, .int .i64 t128], .agg #[.int .u32 t129, .int .i64 t130]]), (6, .pointer (some ⟨s_, 0, none⟩)), (24, .int .u32 (Go.bits .and .u32 aj t126)), (28, .agg #[.int .u32 (Go.bits .and .u32 aj t126), .int .i64 (wrap64 (ai - 1))]), (17, .tuple #[.agg #[.int .u32 t127, .int .i64 t128], .agg #[.int .u32 t129, .int .i64 t130]]), (30, .agg #[.int .u32 t127, .int .i64 t128]), (31, .agg #[.int .u32 t129, .int .i64 t130])]) (fun s_ w' => (w'.cell? ⟨aa, 0, none⟩ = some (.int .u32 aj) ∧ w'.cell? ⟨aa, 1, none⟩ = some (.int .i64 ai)) ∧ (w'.heap[aa]? = some (.cells #[.int .u32 aj, .int .i64 ai] 24 (0, 0))) ∧ (w'.heap[ad]? = some (.cells #[.int .u32 a5, .int .i64 a4] 24 (0, 0))) ∧ (w'.heap[s_]? = some (.cells #[.int .u32 0, .int .i64 0] 24 (0, 0))) ∧ (w.heap.size ≤ s_) ∧ (w.heap.size ≤ s_) ∧ (aa ≠ s_) ∧ (s_ ≠ aa) ∧ (ad ≠ s_) ∧ (s_ ≠ ad) ∧ (Below w.heap.size w w')) ?_ ?_
       rotate_left
       ·intro hJ5_11_16
        refine join_ (σ := Nat × Nat) 6 #[true, true, true, true, true, true, true, true, true, true, true, false, false, false, false, true, true, false, false] (fun s_ => [(23, .int .u32 t126), (5, .pointer (some ⟨s_.1, 0, none⟩)), (6, .pointer (some ⟨s_.2, 0, none⟩)), (24, .int .u32 (Go.bits .and .u32 aj t126)), (28, .agg #[.int .u32 (Go.bits .and .u32 aj t126), .int .i64 (wrap64 (ai - 1))])]) (fun s_ w' => (w'.cell? ⟨aa, 0, none⟩ = some (.int .u32 aj) ∧ w'.cell? ⟨aa, 1, none⟩ = some (.int .i64 ai)) ∧ (w'.heap[aa]? = some (.cells #[.int .u32 aj, .int .i64 ai] 24 (0, 0))) ∧ (w'.heap[ad]? = some (.cells #[.int .u32 a5, .int .i64 a4] 24 (0, 0))) ∧ (w'.heap[s_.1]? = some (.cells #[.int .u32 0, .int .i64 0] 24 (0, 0))) ∧ (w'.heap[s_.2]? = some (.cells #[.int .u32 0, .int .i64 0] 24 (0, 0))) ∧ (w.heap.size ≤ s_.1) ∧ (w.heap.size ≤ s_.1) ∧ (aa ≠ s_.1) ∧ (s_.1 ≠ aa) ∧ (ad ≠ s_.1) ∧ (s_.1 ≠ ad) ∧ (s_.2 ≠ s_.1) ∧ (s_.1 ≠ s_.2) ∧ (w.heap.size ≤ s_.2) ∧ (w.heap.size ≤ s_.2) ∧ (aa ≠ s_.2) ∧ (s_.2 ≠ aa) ∧ (ad ≠ s_.2) ∧ (s_.2 ≠ ad) ∧ (Below w.heap.size w w')) ?_ ?_
        rotate_left
        ·intro hJ5_15_16
         refine join_ (σ := Unit) 4 #[true, true, true, true, true, true, true, true, true, true, true, true, true, true, true, false, false, false, false] (fun s_ => [(23, .int .u32 t126), (29, .tuple #[.agg #[.int .u32 t127, .int .i64 t128], .agg #[.int .u32 t129, .int .i64 t130]]), (24, .int .u32 (Go.bits .and .u32 aj t126)), (28, .agg #[.int .u32 (Go.bits .and .u32 aj t126), .int .i64 (wrap64 (ai - 1))]), (17, .tuple #[.agg #[.int .u32 t127, .int .i64 t128], .agg #[.int .u32 t129, .int .i64 t130]]), (30, .agg #[.int .u32 t127, .int .i64 t128]), (31, .agg #[.int .u32 t129, .int .i64 t130])]) (fun s_ w' => (w'.cell? ⟨aa, 0, none⟩ = some (.int .u32 aj) ∧ w'.cell? ⟨aa, 1, none⟩ = some (.int .i64 ai)) ∧ (w'.heap[aa]? = some (.cells #[.int .u32 aj, .int .i64 ai] 24 (0, 0))) ∧ (w'.heap[ad]? = some (.cells #[.int .u32 a5, .int .i64 a4] 24 (0, 0))) ∧ (Below w.heap.size w w')) ?_ ?_
         rotate_left
         ·intro hJ5_11
          refine join_ (σ := Nat) 7 #[true, true, true, true, true, true, true, true, true, true, true, false, false, false, false, true, false, false, false] (fun s_ => [(23, .int .u32 t126), (5, .pointer (some ⟨s_, 0, none⟩)), (24, .int .u32 (Go.bits .and .u32 aj t126)), (28, .agg #[.int .u32 (Go.bits .and .u32 aj t126), .int .i64 (wrap64 (ai - 1))])]) (fun s_ w' => (w'.cell? ⟨aa, 0, none⟩ = some (.int .u32 aj) ∧ w'.cell? ⟨aa, 1, none⟩ = some (.int .i64 ai)) ∧ (w'.heap[aa]? = some (.cells #[.int .u32 aj, .int .i64 ai] 24 (0, 0))) ∧ (w'.heap[ad]? = some (.cells #[.int .u32 a5, .int .i64 a4] 24 (0, 0))) ∧ (w'.heap[s_]? = some (.cells #[.int .u32 0, .int .i64 0] 24 (0, 0))) ∧ (w.heap.size ≤ s_) ∧ (w.heap.size ≤ s_) ∧ (aa ≠ s_) ∧ (s_ ≠ aa) ∧ (ad ≠ s_) ∧ (s_ ≠ ad) ∧ (Below w.heap.size w w')) ?_ ?_
          rotate_left
          ·intro hJ5_15
           refine join_ (σ := Nat) 7 #[true, true, true, true, true, true, true, true, true, true, true, false, false, false, false, false, true, false, false] (fun s_ => [(23, .int .u32 t126), (6, .pointer (some ⟨s_, 0, none⟩)), (24, .int .u32 (Go.bits .and .u32 aj t126)), (28, .agg #[.int .u32 (Go.bits .and .u32 aj t126), .int .i64 (wrap64 (ai - 1))])]) (fun s_ w' => (w'.cell? ⟨aa, 0, none⟩ = some (.int .u32 aj) ∧ w'.cell? ⟨aa, 1, none⟩ = some (.int .i64 ai)) ∧ (w'.heap[aa]? = some (.cells #[.int .u32 aj, .int .i64 ai] 24 (0, 0))) ∧ (w'.heap[ad]? = some (.cells #[.int .u32 a5, .int .i64 a4] 24 (0, 0))) ∧ (w'.heap[s_]? = some (.cells #[.int .u32 0, .int .i64 0] 24 (0, 0))) ∧ (w.heap.size ≤ s_) ∧ (w.heap.size ≤ s_) ∧ (aa ≠ s_) ∧ (s_ ≠ aa) ∧ (ad ≠ s_) ∧ (s_ ≠ ad) ∧ (Below w.heap.size w w')) ?_ ?_
           rotate_left
           ·intro hJ5_16
            refine join_ (σ := Nat × Nat) 9 #[true, true, true, true, true, false, false, true, true, true, false, false, false, false, false, true, true, false, false] (fun s_ => [(5, .pointer (some ⟨s_.1, 0, none⟩)), (6, .pointer (some ⟨s_.2, 0, none⟩))]) (fun s_ w' => (w'.cell? ⟨aa, 0, none⟩ = some (.int .u32 aj) ∧ w'.cell? ⟨aa, 1, none⟩ = some (.int .i64 ai)) ∧ (w'.heap[aa]? = some (.cells #[.int .u32 aj, .int .i64 ai] 24 (0, 0))) ∧ (w'.heap[ad]? = some (.cells #[.int .u32 a5, .int .i64 a4] 24 (0, 0))) ∧ (w'.heap[s_.1]? = some (.cells #[.int .u32 0, .int .i64 0] 24 (0, 0))) ∧ (w'.heap[s_.2]? = some (.cells #[.int .u32 0, .int .i64 0] 24 (0, 0))) ∧ (w.heap.size ≤ s_.1) ∧ (w.heap.size ≤ s_.1) ∧ (aa ≠ s_.1) ∧ (s_.1 ≠ aa) ∧ (ad ≠ s_.1) ∧ (s_.1 ≠ ad) ∧ (s_.2 ≠ s_.1) ∧ (s_.1 ≠ s_.2) ∧ (w.heap.size ≤ s_.2) ∧ (w.heap.size ≤ s_.2) ∧ (aa ≠ s_.2) ∧ (s_.2 ≠ aa) ∧ (ad ≠ s_.2) ∧ (s_.2 ≠ ad) ∧ (Below w.heap.size w w')) ?_ ?_
            rotate_left
            ·intro hJ15_16
             refine join_ (σ := Unit) 8 #[true, true, true, true, true, true, true, true, true, true, true, false, false, false, false, false, false, false, false] (fun s_ => [(23, .int .u32 t126), (24, .int .u32 (Go.bits .and .u32 aj t126)), (28, .agg #[.int .u32 (Go.bits .and .u32 aj t126), .int .i64 (wrap64 (ai - 1))])]) (fun s_ w' => (w'.cell? ⟨aa, 0, none⟩ = some (.int .u32 aj) ∧ w'.cell? ⟨aa, 1, none⟩ = some (.int .i64 ai)) ∧ (w'.heap[aa]? = some (.cells #[.int .u32 aj, .int .i64 ai] 24 (0, 0))) ∧ (w'.heap[ad]? = some (.cells #[.int .u32 a5, .int .i64 a4] 24 (0, 0))) ∧ (Below w.heap.size w w')) ?_ ?_
             rotate_left
             ·intro hJ5
              refine join_ (σ := Nat) 10 #[true, true, true, true, true, false, false, true, true, true, false, false, false, false, false, true, false, false, false] (fun s_ => [(5, .pointer (some ⟨s_, 0, none⟩))]) (fun s_ w' => (w'.cell? ⟨aa, 0, none⟩ = some (.int .u32 aj) ∧ w'.cell? ⟨aa, 1, none⟩ = some (.int .i64 ai)) ∧ (w'.heap[aa]? = some (.cells #[.int .u32 aj, .int .i64 ai] 24 (0, 0))) ∧ (w'.heap[ad]? = some (.cells #[.int .u32 a5, .int .i64 a4] 24 (0, 0))) ∧ (w'.heap[s_]? = some (.cells #[.int .u32 0, .int .i64 0] 24 (0, 0))) ∧ (w.heap.size ≤ s_) ∧ (w.heap.size ≤ s_) ∧ (aa ≠ s_) ∧ (s_ ≠ aa) ∧ (ad ≠ s_) ∧ (s_ ≠ ad) ∧ (Below w.heap.size w w')) ?_ ?_
              rotate_left
              ·intro hJ15
               refine join_ (σ := Nat) 10 #[true, true, true, true, true, false, false, true, true, true, false, false, false, false, false, false, true, false, false] (fun s_ => [(6, .pointer (some ⟨s_, 0, none⟩))]) (fun s_ w' => (w'.cell? ⟨aa, 0, none⟩ = some (.int .u32 aj) ∧ w'.cell? ⟨aa, 1, none⟩ = some (.int .i64 ai)) ∧ (w'.heap[aa]? = some (.cells #[.int .u32 aj, .int .i64 ai] 24 (0, 0))) ∧ (w'.heap[ad]? = some (.cells #[.int .u32 a5, .int .i64 a4] 24 (0, 0))) ∧ (w'.heap[s_]? = some (.cells #[.int .u32 0, .int .i64 0] 24 (0, 0))) ∧ (w.heap.size ≤ s_) ∧ (w.heap.size ≤ s_) ∧ (aa ≠ s_) ∧ (s_ ≠ aa) ∧ (ad ≠ s_) ∧ (s_ ≠ ad) ∧ (Below w.heap.size w w')) ?_ ?_
               rotate_left
               ·intro hJ16
                refine three_ (i := 5) (j := 15) (k := 16) (Ni := some 23) (Nj := some 5) (Nk := some 6) #[true, true, true, true, true, true, false, true, true, true, false, false, false, false, false, false, false, false, false] #[true, true, true, true, true, false, false, true, true, true, false, false, false, false, false, true, false, false, false] #[true, true, true, true, true, false, false, true, true, true, false, false, false, false, false, false, true, false, false] rfl rfl rfl rfl rfl rfl (three_of HT_.out (by kernel_rfl)) (by decide) (by decide) (by decide) (fun K hK => ?_) (fun K hK => ?_) (fun K hK => ?_)
                ·skip
                 refine goes_ Tryd.func15 (by kernel_rfl) rfl #[.int .i64 (wrap64 (ai - 1))] (by rfl) rfl rfl (by (try simp only [List.map_toArray, List.map_cons, List.map_nil]); first | done | rfl) ?_
                 with_reducible refine (addr_mask.calls (wrap64 (ai - 1)) t126 _ a9.out).mono ?_
                 rintro e w' ⟨rfl, ⟨nd, rfl⟩⟩
                 refine ⟨_, rfl, ?_⟩
                 refine hK.out _ _ (k4592.b2e ab.out) (fun hHeld => ?_)
                 clear hK K
                 refine norm_ (a' := ?_) ?_ ?_
                 rotate_left
                 ·show Act.put _ (some 23) _ = _
                  simp only [Act.put, List.setIfInBounds_toArray, List.set_cons_zero, List.set_cons_succ, i64_w]
                  rfl
                 refine pure_ (i := 6) (N := some 24) (v := ?_) (a' := ?_) #[true, true, true, true, true, true, true, true, true, true, false, false, false, false, false, false, false, false, false] rfl rfl (any_of HT_.out (by kernel_rfl)) (fun _ _ _ h => h) (Or.inl ⟨by rfl, ?_⟩) ?_ ?_
                 rotate_left
                 ·intro w'
                  go_simp
                  with_reducible rfl
                 rotate_left
                 ·simp only [Act.put, List.setIfInBounds_toArray, List.set_cons_zero, List.set_cons_succ, i64_w]
                  rfl
                 refine pure_ (i := 10) (N := some 28) (v := ?_) (a' := ?_) #[true, true, true, true, true, true, true, true, true, true, true, false, false, false, false, false, false, false, false] rfl rfl (any_of HT_.out (by kernel_rfl)) (fun _ _ _ h => h) (Or.inl ⟨by rfl, ?_⟩) ?_ ?_
                 rotate_left
                 ·intro w'
                  go_simp
                  with_reducible rfl
                 rotate_left
                 ·simp only [Act.put, List.setIfInBounds_toArray, List.set_cons_zero, List.set_cons_succ, i64_w]
                  rfl
                 exact norm_ (by first | (simp only [putAll, Act.put, List.setIfInBounds_toArray, List.set_cons_zero, List.set_cons_succ]; done) | (simp only [putAll, Act.put, List.setIfInBounds_toArray, List.set_cons_zero, List.set_cons_succ]; rfl)) (hJ5 () _ ⟨hHeld, (by (with_reducible repeat (first | refine blk_drewN ?_ _ | refine blk_drew ?_ | refine blk_alloc ?_ _)); exact ab.out), (by (with_reducible repeat (first | refine blk_drewN ?_ _ | refine blk_drew ?_ | refine blk_alloc ?_ _)); exact af.out), (by repeat (first | (with_reducible first | exact HB.out | apply below_alloc | apply pw_below_drewN | apply below_drew1 | refine below_set ?_ ao.out | refine below_set ?_ ar.out) | exact HB.out))⟩)
                ·skip
                 refine box_step ?hg (N := 5) ?hd (cs := #[.int .u32 0, .int .i64 0]) (t := 24) ?hr ?_; (case hd => rfl); (case hg => rfl); (case hr => first | (go_simp; done) | (go_simp; rfl))
                 intro ac hg w36 hbox hb
                 have n0_ := Aside0.mk (blk_below (g := aa) (by (with_reducible repeat (first | refine blk_drewN ?_ _ | refine blk_drew ?_ | refine blk_alloc ?_ _)); exact ab.out) hb)
                 have n1_ := Aside0.mk (blk_below (g := ad) (by (with_reducible repeat (first | refine blk_drewN ?_ _ | refine blk_drew ?_ | refine blk_alloc ?_ _)); exact af.out) hb)
                 have n2_ := Aside0.mk (below_step (by repeat (first | (with_reducible first | exact HB.out | apply below_alloc | apply pw_below_drewN | apply below_drew1 | refine below_set ?_ ao.out | refine below_set ?_ ar.out) | exact HB.out)) hb)
                 have n3_ := Aside0.mk (hbox)
                 have n4_ := Aside0.mk ((by rw [hg]; exact (below_size (by repeat (first | (with_reducible first | exact HB.out | apply below_alloc | apply pw_below_drewN | apply below_drew1 | refine below_set ?_ ao.out | refine below_set ?_ ar.out) | exact HB.out))) : w.heap.size ≤ ac))
                 have n5_ := Aside0.mk ((by rw [hg]; exact (below_size (by repeat (first | (with_reducible first | exact HB.out | apply below_alloc | apply pw_below_drewN | apply below_drew1 | refine below_set ?_ ao.out | refine below_set ?_ ar.out) | exact HB.out))) : w.heap.size ≤ ac))
                 have n6_ := Aside0.mk ((by rw [hg]; exact Nat.ne_of_lt (blk_lt (g := aa) (o := .cells #[.int .u32 aj, .int .i64 ai] 24 (0, 0)) (by (with_reducible repeat (first | refine blk_drewN ?_ _ | refine blk_drew ?_ | refine blk_alloc ?_ _)); exact ab.out)) : aa ≠ ac))
                 have n7_ := Aside0.mk ((by rw [hg]; exact Nat.ne_of_gt (blk_lt (g := aa) (o := .cells #[.int .u32 aj, .int .i64 ai] 24 (0, 0)) (by (with_reducible repeat (first | refine blk_drewN ?_ _ | refine blk_drew ?_ | refine blk_alloc ?_ _)); exact ab.out)) : ac ≠ aa))
                 have n8_ := Aside0.mk ((by rw [hg]; exact Nat.ne_of_lt (blk_lt (g := ad) (o := .cells #[.int .u32 a5, .int .i64 a4] 24 (0, 0)) (by (with_reducible repeat (first | refine blk_drewN ?_ _ | refine blk_drew ?_ | refine blk_alloc ?_ _)); exact af.out)) : ad ≠ ac))
                 have n9_ := Aside0.mk ((by rw [hg]; exact Nat.ne_of_gt (blk_lt (g := ad) (o := .cells #[.int .u32 a5, .int .i64 a4] 24 (0, 0)) (by (with_reducible repeat (first | refine blk_drewN ?_ _ | refine blk_drew ?_ | refine blk_alloc ?_ _)); exact af.out)) : ac ≠ ad))
                 clear ab
                 clear af
                 clear HB
                 have ab := n0_
                 have af := n1_
                 have HB := n2_
                 have au := n3_
                 have a6 := n4_
                 have ax := n5_
                 have ag := n6_
                 have ak := n7_
                 have al := n8_
                 have am := n9_
                 clear n0_ n1_ n2_ n3_ n4_ n5_ n6_ n7_ n8_ n9_
                 clear hb hbox hg
                 refine hK.out _ _ (k4592.b2e ab.out) (fun hHeld => ?_)
                 clear hK K
                 refine norm_ (a' := ?_) ?_ ?_
                 rotate_left
                 ·show Act.put _ (some 5) _ = _
                  simp only [Act.put, List.setIfInBounds_toArray, List.set_cons_zero, List.set_cons_succ, i64_w]
                  rfl
                 exact norm_ (by first | (simp only [putAll, Act.put, List.setIfInBounds_toArray, List.set_cons_zero, List.set_cons_succ]; done) | (simp only [putAll, Act.put, List.setIfInBounds_toArray, List.set_cons_zero, List.set_cons_succ]; rfl)) (hJ15 (ac) _ ⟨hHeld, (by (with_reducible repeat (first | refine blk_drewN ?_ _ | refine blk_drew ?_ | refine blk_alloc ?_ _)); exact ab.out), (by (with_reducible repeat (first | refine blk_drewN ?_ _ | refine blk_drew ?_ | refine blk_alloc ?_ _)); exact af.out), (by (with_reducible repeat (first | refine blk_drewN ?_ _ | refine blk_drew ?_ | refine blk_alloc ?_ _)); exact au.out), a6.out, ax.out, ag.out, ak.out, al.out, am.out, (by repeat (first | (with_reducible first | exact HB.out | apply below_alloc | apply pw_below_drewN | apply below_drew1 | refine below_set ?_ ao.out | refine below_set ?_ ar.out | refine below_set ?_ ax.out) | exact HB.out))⟩)
                ·skip
                 refine box_step ?hg (N := 6) ?hd (cs := #[.int .u32 0, .int .i64 0]) (t := 24) ?hr ?_; (case hd => rfl); (case hg => rfl); (case hr => first | (go_simp; done) | (go_simp; rfl))
                 intro ae hg w36 hbox hb
                 have n0_ := Aside0.mk (blk_below (g := aa) (by (with_reducible repeat (first | refine blk_drewN ?_ _ | refine blk_drew ?_ | refine blk_alloc ?_ _)); exact ab.out) hb)
                 have n1_ := Aside0.mk (blk_below (g := ad) (by (with_reducible repeat (first | refine blk_drewN ?_ _ | refine blk_drew ?_ | refine blk_alloc ?_ _)); exact af.out) hb)
                 have n2_ := Aside0.mk (below_step (by repeat (first | (with_reducible first | exact HB.out | apply below_alloc | apply pw_below_drewN | apply below_drew1 | refine below_set ?_ ao.out | refine below_set ?_ ar.out) | exact HB.out)) hb)
                 have n3_ := Aside0.mk (hbox)
                 have n4_ := Aside0.mk ((by rw [hg]; exact (below_size (by repeat (first | (with_reducible first | exact HB.out | apply below_alloc | apply pw_below_drewN | apply below_drew1 | refine below_set ?_ ao.out | refine below_set ?_ ar.out) | exact HB.out))) : w.heap.size ≤ ae))
                 have n5_ := Aside0.mk ((by rw [hg]; exact (below_size (by repeat (first | (with_reducible first | exact HB.out | apply below_alloc | apply pw_below_drewN | apply below_drew1 | refine below_set ?_ ao.out | refine below_set ?_ ar.out) | exact HB.out))) : w.heap.size ≤ ae))
                 have n6_ := Aside0.mk ((by rw [hg]; exact Nat.ne_of_lt (blk_lt (g := aa) (o := .cells #[.int .u32 aj, .int .i64 ai] 24 (0, 0)) (by (with_reducible repeat (first | refine blk_drewN ?_ _ | refine blk_drew ?_ | refine blk_alloc ?_ _)); exact ab.out)) : aa ≠ ae))
                 have n7_ := Aside0.mk ((by rw [hg]; exact Nat.ne_of_gt (blk_lt (g := aa) (o := .cells #[.int .u32 aj, .int .i64 ai] 24 (0, 0)) (by (with_reducible repeat (first | refine blk_drewN ?_ _ | refine blk_drew ?_ | refine blk_alloc ?_ _)); exact ab.out)) : ae ≠ aa))
                 have n8_ := Aside0.mk ((by rw [hg]; exact Nat.ne_of_lt (blk_lt (g := ad) (o := .cells #[.int .u32 a5, .int .i64 a4] 24 (0, 0)) (by (with_reducible repeat (first | refine blk_drewN ?_ _ | refine blk_drew ?_ | refine blk_alloc ?_ _)); exact af.out)) : ad ≠ ae))
                 have n9_ := Aside0.mk ((by rw [hg]; exact Nat.ne_of_gt (blk_lt (g := ad) (o := .cells #[.int .u32 a5, .int .i64 a4] 24 (0, 0)) (by (with_reducible repeat (first | refine blk_drewN ?_ _ | refine blk_drew ?_ | refine blk_alloc ?_ _)); exact af.out)) : ae ≠ ad))
                 clear ab
                 clear af
                 clear HB
                 have ab := n0_
                 have af := n1_
                 have HB := n2_
                 have ay := n3_
                 have a7 := n4_
                 have az := n5_
                 have ah := n6_
                 have an := n7_
                 have ap := n8_
                 have aq := n9_
                 clear n0_ n1_ n2_ n3_ n4_ n5_ n6_ n7_ n8_ n9_
                 clear hb hbox hg
                 refine hK.out _ _ (k4592.b2e ab.out) (fun hHeld => ?_)
                 clear hK K
                 refine norm_ (a' := ?_) ?_ ?_
                 rotate_left
                 ·show Act.put _ (some 6) _ = _
                  simp only [Act.put, List.setIfInBounds_toArray, List.set_cons_zero, List.set_cons_succ, i64_w]
                  rfl
                 exact norm_ (by first | (simp only [putAll, Act.put, List.setIfInBounds_toArray, List.set_cons_zero, List.set_cons_succ]; done) | (simp only [putAll, Act.put, List.setIfInBounds_toArray, List.set_cons_zero, List.set_cons_succ]; rfl)) (hJ16 (ae) _ ⟨hHeld, (by (with_reducible repeat (first | refine blk_drewN ?_ _ | refine blk_drew ?_ | refine blk_alloc ?_ _)); exact ab.out), (by (with_reducible repeat (first | refine blk_drewN ?_ _ | refine blk_drew ?_ | refine blk_alloc ?_ _)); exact af.out), (by (with_reducible repeat (first | refine blk_drewN ?_ _ | refine blk_drew ?_ | refine blk_alloc ?_ _)); exact ay.out), a7.out, az.out, ah.out, an.out, ap.out, aq.out, (by repeat (first | (with_reducible first | exact HB.out | apply below_alloc | apply pw_below_drewN | apply below_drew1 | refine below_set ?_ ao.out | refine below_set ?_ ar.out | refine below_set ?_ az.out) | exact HB.out))⟩)
               ·skip
                rintro ae w37 ⟨hS_, h0_, h1_, h2_, h3_, h4_, h5_, h6_, h7_, h8_, h9_⟩
                have n0_ : Aside0 (w37.heap[aa]? = some (.cells #[.int .u32 aj, .int .i64 ai] 24 (0, 0))) := ⟨h0_⟩
                have n1_ : Aside0 (w37.heap[ad]? = some (.cells #[.int .u32 a5, .int .i64 a4] 24 (0, 0))) := ⟨h1_⟩
                have n2_ : Aside0 (w37.heap[ae]? = some (.cells #[.int .u32 0, .int .i64 0] 24 (0, 0))) := ⟨h2_⟩
                have n3_ : Aside0 (w.heap.size ≤ ae) := ⟨h3_⟩
                have n4_ : Aside0 (w.heap.size ≤ ae) := ⟨h4_⟩
                have n5_ : Aside0 (aa ≠ ae) := ⟨h5_⟩
                have n6_ : Aside0 (ae ≠ aa) := ⟨h6_⟩
                have n7_ : Aside0 (ad ≠ ae) := ⟨h7_⟩
                have n8_ : Aside0 (ae ≠ ad) := ⟨h8_⟩
                have n9_ : Aside0 (Below w.heap.size w w37) := ⟨h9_⟩
                clear ab
                clear af
                clear HB
                clear h0_ h1_ h2_ h3_ h4_ h5_ h6_ h7_ h8_ h9_
                have ab := n0_
                have af := n1_
                have ay := n2_
                have a7 := n3_
                have az := n4_
                have ah := n5_
                have an := n6_
                have ap := n7_
                have aq := n8_
                have HB := n9_
                clear n0_ n1_ n2_ n3_ n4_ n5_ n6_ n7_ n8_ n9_
                have hHeld : w37.cell? ⟨aa, 0, none⟩ = some (.int .u32 aj) ∧ w37.cell? ⟨aa, 1, none⟩ = some (.int .i64 ai) := hS_
                refine norm_ (a' := ?_) ?_ ?_
                rotate_left
                ·simp only [putAll, Act.put, List.setIfInBounds_toArray, List.set_cons_zero, List.set_cons_succ]
                 rfl
                refine two_ (i := 5) (j := 15) (Ni := some 23) (Nj := some 5) #[true, true, true, true, true, true, false, true, true, true, false, false, false, false, false, false, true, false, false] #[true, true, true, true, true, false, false, true, true, true, false, false, false, false, false, true, true, false, false] rfl rfl rfl rfl (two_of HT_.out (by kernel_rfl)) (by decide) (by decide) (fun K hK => ?_) (fun K hK => ?_)
                ·skip
                 refine goes_ Tryd.func15 (by kernel_rfl) rfl #[.int .i64 (wrap64 (ai - 1))] (by rfl) rfl rfl (by (try simp only [List.map_toArray, List.map_cons, List.map_nil]); first | done | rfl) ?_
                 with_reducible refine (addr_mask.calls (wrap64 (ai - 1)) t126 _ a9.out).mono ?_
                 rintro e w' ⟨rfl, ⟨nd, rfl⟩⟩
                 refine ⟨_, rfl, ?_⟩
                 refine hK.out _ _ (k4592.b2e ab.out) (fun hHeld => ?_)
                 clear hK K
                 refine norm_ (a' := ?_) ?_ ?_
                 rotate_left
                 ·show Act.put _ (some 23) _ = _
                  simp only [Act.put, List.setIfInBounds_toArray, List.set_cons_zero, List.set_cons_succ, i64_w]
                  rfl
                 refine pure_ (i := 6) (N := some 24) (v := ?_) (a' := ?_) #[true, true, true, true, true, true, true, true, true, true, false, false, false, false, false, false, true, false, false] rfl rfl (any_of HT_.out (by kernel_rfl)) (fun _ _ _ h => h) (Or.inl ⟨by rfl, ?_⟩) ?_ ?_
                 rotate_left
                 ·intro w'
                  go_simp
                  with_reducible rfl
                 rotate_left
                 ·simp only [Act.put, List.setIfInBounds_toArray, List.set_cons_zero, List.set_cons_succ, i64_w]
                  rfl
                 refine pure_ (i := 10) (N := some 28) (v := ?_) (a' := ?_) #[true, true, true, true, true, true, true, true, true, true, true, false, false, false, false, false, true, false, false] rfl rfl (any_of HT_.out (by kernel_rfl)) (fun _ _ _ h => h) (Or.inl ⟨by rfl, ?_⟩) ?_ ?_
                 rotate_left
                 ·intro w'
                  go_simp
                  with_reducible rfl
                 rotate_left
                 ·simp only [Act.put, List.setIfInBounds_toArray, List.set_cons_zero, List.set_cons_succ, i64_w]
                  rfl
                 exact norm_ (by first | (simp only [putAll, Act.put, List.setIfInBounds_toArray, List.set_cons_zero, List.set_cons_succ]; done) | (simp only [putAll, Act.put, List.setIfInBounds_toArray, List.set_cons_zero, List.set_cons_succ]; rfl)) (hJ5_16 (ae) _ ⟨hHeld, (by (with_reducible repeat (first | refine blk_drewN ?_ _ | refine blk_drew ?_ | refine blk_alloc ?_ _)); exact ab.out), (by (with_reducible repeat (first | refine blk_drewN ?_ _ | refine blk_drew ?_ | refine blk_alloc ?_ _)); exact af.out), (by (with_reducible repeat (first | refine blk_drewN ?_ _ | refine blk_drew ?_ | refine blk_alloc ?_ _)); exact ay.out), a7.out, az.out, ah.out, an.out, ap.out, aq.out, (by repeat (first | (with_reducible first | exact HB.out | apply below_alloc | apply pw_below_drewN | apply below_drew1 | refine below_set ?_ ao.out | refine below_set ?_ ar.out | refine below_set ?_ az.out) | exact HB.out))⟩)
                ·skip
                 refine box_step ?hg (N := 5) ?hd (cs := #[.int .u32 0, .int .i64 0]) (t := 24) ?hr ?_; (case hd => rfl); (case hg => rfl); (case hr => first | (go_simp; done) | (go_simp; rfl))
                 intro ac hg w38 hbox hb
                 have n0_ := Aside0.mk (blk_below (g := aa) (by (with_reducible repeat (first | refine blk_drewN ?_ _ | refine blk_drew ?_ | refine blk_alloc ?_ _)); exact ab.out) hb)
                 have n1_ := Aside0.mk (blk_below (g := ad) (by (with_reducible repeat (first | refine blk_drewN ?_ _ | refine blk_drew ?_ | refine blk_alloc ?_ _)); exact af.out) hb)
                 have n2_ := Aside0.mk (blk_below (g := ae) (by (with_reducible repeat (first | refine blk_drewN ?_ _ | refine blk_drew ?_ | refine blk_alloc ?_ _)); exact ay.out) hb)
                 have n3_ := Aside0.mk (below_step (by repeat (first | (with_reducible first | exact HB.out | apply below_alloc | apply pw_below_drewN | apply below_drew1 | refine below_set ?_ ao.out | refine below_set ?_ ar.out | refine below_set ?_ az.out) | exact HB.out)) hb)
                 have n4_ := Aside0.mk (hbox)
                 have n5_ := Aside0.mk ((by rw [hg]; exact (below_size (by repeat (first | (with_reducible first | exact HB.out | apply below_alloc | apply pw_below_drewN | apply below_drew1 | refine below_set ?_ ao.out | refine below_set ?_ ar.out | refine below_set ?_ az.out) | exact HB.out))) : w.heap.size ≤ ac))
                 have n6_ := Aside0.mk ((by rw [hg]; exact (below_size (by repeat (first | (with_reducible first | exact HB.out | apply below_alloc | apply pw_below_drewN | apply below_drew1 | refine below_set ?_ ao.out | refine below_set ?_ ar.out | refine below_set ?_ az.out) | exact HB.out))) : w.heap.size ≤ ac))
                 have n7_ := Aside0.mk ((by rw [hg]; exact Nat.ne_of_lt (blk_lt (g := aa) (o := .cells #[.int .u32 aj, .int .i64 ai] 24 (0, 0)) (by (with_reducible repeat (first | refine blk_drewN ?_ _ | refine blk_drew ?_ | refine blk_alloc ?_ _)); exact ab.out)) : aa ≠ ac))
                 have n8_ := Aside0.mk ((by rw [hg]; exact Nat.ne_of_gt (blk_lt (g := aa) (o := .cells #[.int .u32 aj, .int .i64 ai] 24 (0, 0)) (by (with_reducible repeat (first | refine blk_drewN ?_ _ | refine blk_drew ?_ | refine blk_alloc ?_ _)); exact ab.out)) : ac ≠ aa))
                 have n9_ := Aside0.mk ((by rw [hg]; exact Nat.ne_of_lt (blk_lt (g := ad) (o := .cells #[.int .u32 a5, .int .i64 a4] 24 (0, 0)) (by (with_reducible repeat (first | refine blk_drewN ?_ _ | refine blk_drew ?_ | refine blk_alloc ?_ _)); exact af.out)) : ad ≠ ac))
                 have n10_ := Aside0.mk ((by rw [hg]; exact Nat.ne_of_gt (blk_lt (g := ad) (o := .cells #[.int .u32 a5, .int .i64 a4] 24 (0, 0)) (by (with_reducible repeat (first | refine blk_drewN ?_ _ | refine blk_drew ?_ | refine blk_alloc ?_ _)); exact af.out)) : ac ≠ ad))
                 have n11_ := Aside0.mk ((by rw [hg]; exact Nat.ne_of_lt (blk_lt (g := ae) (o := .cells #[.int .u32 0, .int .i64 0] 24 (0, 0)) (by (with_reducible repeat (first | refine blk_drewN ?_ _ | refine blk_drew ?_ | refine blk_alloc ?_ _)); exact ay.out)) : ae ≠ ac))
                 have n12_ := Aside0.mk ((by rw [hg]; exact Nat.ne_of_gt (blk_lt (g := ae) (o := .cells #[.int .u32 0, .int .i64 0] 24 (0, 0)) (by (with_reducible repeat (first | refine blk_drewN ?_ _ | refine blk_drew ?_ | refine blk_alloc ?_ _)); exact ay.out)) : ac ≠ ae))
                 clear ab
                 clear af
                 clear ay
                 clear HB
                 have ab := n0_
                 have af := n1_
                 have ay := n2_
                 have HB := n3_
                 have au := n4_
                 have a6 := n5_
                 have ax := n6_
                 have ag := n7_
                 have ak := n8_
                 have al := n9_
                 have am := n10_
                 have av := n11_
                 have aw := n12_
                 clear n0_ n1_ n2_ n3_ n4_ n5_ n6_ n7_ n8_ n9_ n10_ n11_ n12_
                 clear hb hbox hg
                 refine hK.out _ _ (k4592.b2e ab.out) (fun hHeld => ?_)
                 clear hK K
                 refine norm_ (a' := ?_) ?_ ?_
                 rotate_left
                 ·show Act.put _ (some 5) _ = _
                  simp only [Act.put, List.setIfInBounds_toArray, List.set_cons_zero, List.set_cons_succ, i64_w]
                  rfl
                 exact norm_ (by first | (simp only [putAll, Act.put, List.setIfInBounds_toArray, List.set_cons_zero, List.set_cons_succ]; done) | (simp only [putAll, Act.put, List.setIfInBounds_toArray, List.set_cons_zero, List.set_cons_succ]; rfl)) (hJ15_16 (ac, ae) _ ⟨hHeld, (by (with_reducible repeat (first | refine blk_drewN ?_ _ | refine blk_drew ?_ | refine blk_alloc ?_ _)); exact ab.out), (by (with_reducible repeat (first | refine blk_drewN ?_ _ | refine blk_drew ?_ | refine blk_alloc ?_ _)); exact af.out), (by (with_reducible repeat (first | refine blk_drewN ?_ _ | refine blk_drew ?_ | refine blk_alloc ?_ _)); exact au.out), (by (with_reducible repeat (first | refine blk_drewN ?_ _ | refine blk_drew ?_ | refine blk_alloc ?_ _)); exact ay.out), a6.out, ax.out, ag.out, ak.out, al.out, am.out, av.out, aw.out, a7.out, az.out, ah.out, an.out, ap.out, aq.out, (by repeat (first | (with_reducible first | exact HB.out | apply below_alloc | apply pw_below_drewN | apply below_drew1 | refine below_set ?_ ao.out | refine below_set ?_ ar.out | refine below_set ?_ az.out | refine below_set ?_ ax.out) | exact HB.out))⟩)
              ·skip
               rintro ac w37 ⟨hS_, h0_, h1_, h2_, h3_, h4_, h5_, h6_, h7_, h8_, h9_⟩
               have n0_ : Aside0 (w37.heap[aa]? = some (.cells #[.int .u32 aj, .int .i64 ai] 24 (0, 0))) := ⟨h0_⟩
               have n1_ : Aside0 (w37.heap[ad]? = some (.cells #[.int .u32 a5, .int .i64 a4] 24 (0, 0))) := ⟨h1_⟩
               have n2_ : Aside0 (w37.heap[ac]? = some (.cells #[.int .u32 0, .int .i64 0] 24 (0, 0))) := ⟨h2_⟩
               have n3_ : Aside0 (w.heap.size ≤ ac) := ⟨h3_⟩
               have n4_ : Aside0 (w.heap.size ≤ ac) := ⟨h4_⟩
               have n5_ : Aside0 (aa ≠ ac) := ⟨h5_⟩
               have n6_ : Aside0 (ac ≠ aa) := ⟨h6_⟩
               have n7_ : Aside0 (ad ≠ ac) := ⟨h7_⟩
               have n8_ : Aside0 (ac ≠ ad) := ⟨h8_⟩
               have n9_ : Aside0 (Below w.heap.size w w37) := ⟨h9_⟩
               clear ab
               clear af
               clear HB
               clear h0_ h1_ h2_ h3_ h4_ h5_ h6_ h7_ h8_ h9_
               have ab := n0_
               have af := n1_
               have au := n2_
               have a6 := n3_
               have ax := n4_
               have ag := n5_
               have ak := n6_
               have al := n7_
               have am := n8_
               have HB := n9_
               clear n0_ n1_ n2_ n3_ n4_ n5_ n6_ n7_ n8_ n9_
               have hHeld : w37.cell? ⟨aa, 0, none⟩ = some (.int .u32 aj) ∧ w37.cell? ⟨aa, 1, none⟩ = some (.int .i64 ai) := hS_
               refine norm_ (a' := ?_) ?_ ?_
               rotate_left
               ·simp only [putAll, Act.put, List.setIfInBounds_toArray, List.set_cons_zero, List.set_cons_succ]
                rfl
               refine two_ (i := 5) (j := 16) (Ni := some 23) (Nj := some 6) #[true, true, true, true, true, true, false, true, true, true, false, false, false, false, false, true, false, false, false] #[true, true, true, true, true, false, false, true, true, true, false, false, false, false, false, true, true, false, false] rfl rfl rfl rfl (two_of HT_.out (by kernel_rfl)) (by decide) (by decide) (fun K hK => ?_) (fun K hK => ?_)
               ·skip
                refine goes_ Tryd.func15 (by kernel_rfl) rfl #[.int .i64 (wrap64 (ai - 1))] (by rfl) rfl rfl (by (try simp only [List.map_toArray, List.map_cons, List.map_nil]); first | done | rfl) ?_
                with_reducible refine (addr_mask.calls (wrap64 (ai - 1)) t126 _ a9.out).mono ?_
                rintro e w' ⟨rfl, ⟨nd, rfl⟩⟩
                refine ⟨_, rfl, ?_⟩
                refine hK.out _ _ (k4592.b2e ab.out) (fun hHeld => ?_)
                clear hK K
                refine norm_ (a' := ?_) ?_ ?_
                rotate_left
                ·show Act.put _ (some 23) _ = _
                 simp only [Act.put, List.setIfInBounds_toArray, List.set_cons_zero, List.set_cons_succ, i64_w]
                 rfl
                refine pure_ (i := 6) (N := some 24) (v := ?_) (a' := ?_) #[true, true, true, true, true, true, true, true, true, true, false, false, false, false, false, true, false, false, false] rfl rfl (any_of HT_.out (by kernel_rfl)) (fun _ _ _ h => h) (Or.inl ⟨by rfl, ?_⟩) ?_ ?_
                rotate_left
                ·intro w'
                 go_simp
                 with_reducible rfl
                rotate_left
                ·simp only [Act.put, List.setIfInBounds_toArray, List.set_cons_zero, List.set_cons_succ, i64_w]
                 rfl
                refine pure_ (i := 10) (N := some 28) (v := ?_) (a' := ?_) #[true, true, true, true, true, true, true, true, true, true, true, false, false, false, false, true, false, false, false] rfl rfl (any_of HT_.out (by kernel_rfl)) (fun _ _ _ h => h) (Or.inl ⟨by rfl, ?_⟩) ?_ ?_
                rotate_left
                ·intro w'
                 go_simp
                 with_reducible rfl
                rotate_left
                ·simp only [Act.put, List.setIfInBounds_toArray, List.set_cons_zero, List.set_cons_succ, i64_w]
                 rfl
                exact norm_ (by first | (simp only [putAll, Act.put, List.setIfInBounds_toArray, List.set_cons_zero, List.set_cons_succ]; done) | (simp only [putAll, Act.put, List.setIfInBounds_toArray, List.set_cons_zero, List.set_cons_succ]; rfl)) (hJ5_15 (ac) _ ⟨hHeld, (by (with_reducible repeat (first | refine blk_drewN ?_ _ | refine blk_drew ?_ | refine blk_alloc ?_ _)); exact ab.out), (by (with_reducible repeat (first | refine blk_drewN ?_ _ | refine blk_drew ?_ | refine blk_alloc ?_ _)); exact af.out), (by (with_reducible repeat (first | refine blk_drewN ?_ _ | refine blk_drew ?_ | refine blk_alloc ?_ _)); exact au.out), a6.out, ax.out, ag.out, ak.out, al.out, am.out, (by repeat (first | (with_reducible first | exact HB.out | apply below_alloc | apply pw_below_drewN | apply below_drew1 | refine below_set ?_ ao.out | refine below_set ?_ ar.out | refine below_set ?_ ax.out) | exact HB.out))⟩)
               ·skip
                refine box_step ?hg (N := 6) ?hd (cs := #[.int .u32 0, .int .i64 0]) (t := 24) ?hr ?_; (case hd => rfl); (case hg => rfl); (case hr => first | (go_simp; done) | (go_simp; rfl))
                intro ae hg w38 hbox hb
                have n0_ := Aside0.mk (blk_below (g := aa) (by (with_reducible repeat (first | refine blk_drewN ?_ _ | refine blk_drew ?_ | refine blk_alloc ?_ _)); exact ab.out) hb)
                have n1_ := Aside0.mk (blk_below (g := ad) (by (with_reducible repeat (first | refine blk_drewN ?_ _ | refine blk_drew ?_ | refine blk_alloc ?_ _)); exact af.out) hb)
                have n2_ := Aside0.mk (blk_below (g := ac) (by (with_reducible repeat (first | refine blk_drewN ?_ _ | refine blk_drew ?_ | refine blk_alloc ?_ _)); exact au.out) hb)
                have n3_ := Aside0.mk (below_step (by repeat (first | (with_reducible first | exact HB.out | apply below_alloc | apply pw_below_drewN | apply below_drew1 | refine below_set ?_ ao.out | refine below_set ?_ ar.out | refine below_set ?_ ax.out) | exact HB.out)) hb)
                have n4_ := Aside0.mk (hbox)
                have n5_ := Aside0.mk ((by rw [hg]; exact (below_size (by repeat (first | (with_reducible first | exact HB.out | apply below_alloc | apply pw_below_drewN | apply below_drew1 | refine below_set ?_ ao.out | refine below_set ?_ ar.out | refine below_set ?_ ax.out) | exact HB.out))) : w.heap.size ≤ ae))
                have n6_ := Aside0.mk ((by rw [hg]; exact (below_size (by repeat (first | (with_reducible first | exact HB.out | apply below_alloc | apply pw_below_drewN | apply below_drew1 | refine below_set ?_ ao.out | refine below_set ?_ ar.out | refine below_set ?_ ax.out) | exact HB.out))) : w.heap.size ≤ ae))
                have n7_ := Aside0.mk ((by rw [hg]; exact Nat.ne_of_lt (blk_lt (g := aa) (o := .cells #[.int .u32 aj, .int .i64 ai] 24 (0, 0)) (by (with_reducible repeat (first | refine blk_drewN ?_ _ | refine blk_drew ?_ | refine blk_alloc ?_ _)); exact ab.out)) : aa ≠ ae))
                have n8_ := Aside0.mk ((by rw [hg]; exact Nat.ne_of_gt (blk_lt (g := aa) (o := .cells #[.int .u32 aj, .int .i64 ai] 24 (0, 0)) (by (with_reducible repeat (first | refine blk_drewN ?_ _ | refine blk_drew ?_ | refine blk_alloc ?_ _)); exact ab.out)) : ae ≠ aa))
                have n9_ := Aside0.mk ((by rw [hg]; exact Nat.ne_of_lt (blk_lt (g := ad) (o := .cells #[.int .u32 a5, .int .i64 a4] 24 (0, 0)) (by (with_reducible repeat (first | refine blk_drewN ?_ _ | refine blk_drew ?_ | refine blk_alloc ?_ _)); exact af.out)) : ad ≠ ae))
                have n10_ := Aside0.mk ((by rw [hg]; exact Nat.ne_of_gt (blk_lt (g := ad) (o := .cells #[.int .u32 a5, .int .i64 a4] 24 (0, 0)) (by (with_reducible repeat (first | refine blk_drewN ?_ _ | refine blk_drew ?_ | refine blk_alloc ?_ _)); exact af.out)) : ae ≠ ad))
                have n11_ := Aside0.mk ((by rw [hg]; exact Nat.ne_of_lt (blk_lt (g := ac) (o := .cells #[.int .u32 0, .int .i64 0] 24 (0, 0)) (by (with_reducible repeat (first | refine blk_drewN ?_ _ | refine blk_drew ?_ | refine blk_alloc ?_ _)); exact au.out)) : ac ≠ ae))
                have n12_ := Aside0.mk ((by rw [hg]; exact Nat.ne_of_gt (blk_lt (g := ac) (o := .cells #[.int .u32 0, .int .i64 0] 24 (0, 0)) (by (with_reducible repeat (first | refine blk_drewN ?_ _ | refine blk_drew ?_ | refine blk_alloc ?_ _)); exact au.out)) : ae ≠ ac))
                clear ab
                clear af
                clear au
                clear HB
                have ab := n0_
                have af := n1_
                have au := n2_
                have HB := n3_
                have ay := n4_
                have a7 := n5_
                have az := n6_
                have ah := n7_
                have an := n8_
                have ap := n9_
                have aq := n10_
                have aw := n11_
                have av := n12_
                clear n0_ n1_ n2_ n3_ n4_ n5_ n6_ n7_ n8_ n9_ n10_ n11_ n12_
                clear hb hbox hg
                refine hK.out _ _ (k4592.b2e ab.out) (fun hHeld => ?_)
                clear hK K
                refine norm_ (a' := ?_) ?_ ?_
                rotate_left
                ·show Act.put _ (some 6) _ = _
                 simp only [Act.put, List.setIfInBounds_toArray, List.set_cons_zero, List.set_cons_succ, i64_w]
                 rfl
                exact norm_ (by first | (simp only [putAll, Act.put, List.setIfInBounds_toArray, List.set_cons_zero, List.set_cons_succ]; done) | (simp only [putAll, Act.put, List.setIfInBounds_toArray, List.set_cons_zero, List.set_cons_succ]; rfl)) (hJ15_16 (ac, ae) _ ⟨hHeld, (by (with_reducible repeat (first | refine blk_drewN ?_ _ | refine blk_drew ?_ | refine blk_alloc ?_ _)); exact ab.out), (by (with_reducible repeat (first | refine blk_drewN ?_ _ | refine blk_drew ?_ | refine blk_alloc ?_ _)); exact af.out), (by (with_reducible repeat (first | refine blk_drewN ?_ _ | refine blk_drew ?_ | refine blk_alloc ?_ _)); exact au.out), (by (with_reducible repeat (first | refine blk_drewN ?_ _ | refine blk_drew ?_ | refine blk_alloc ?_ _)); exact ay.out), a6.out, ax.out, ag.out, ak.out, al.out, am.out, av.out, aw.out, a7.out, az.out, ah.out, an.out, ap.out, aq.out, (by repeat (first | (with_reducible first | exact HB.out | apply below_alloc | apply pw_below_drewN | apply below_drew1 | refine below_set ?_ ao.out | refine below_set ?_ ar.out | refine below_set ?_ ax.out | refine below_set ?_ az.out) | exact HB.out))⟩)
             ·skip
              rintro _ w36 ⟨hS_, h0_, h1_, h2_⟩
              have n0_ : Aside0 (w36.heap[aa]? = some (.cells #[.int .u32 aj, .int .i64 ai] 24 (0, 0))) := ⟨h0_⟩
              have n1_ : Aside0 (w36.heap[ad]? = some (.cells #[.int .u32 a5, .int .i64 a4] 24 (0, 0))) := ⟨h1_⟩
              have n2_ : Aside0 (Below w.heap.size w w36) := ⟨h2_⟩
              clear ab
              clear af
              clear HB
              clear h0_ h1_ h2_
              have ab := n0_
              have af := n1_
              have HB := n2_
              clear n0_ n1_ n2_
              have hHeld : w36.cell? ⟨aa, 0, none⟩ = some (.int .u32 aj) ∧ w36.cell? ⟨aa, 1, none⟩ = some (.int .i64 ai) := hS_
              refine norm_ (a' := ?_) ?_ ?_
              rotate_left
              ·simp only [putAll, Act.put, List.setIfInBounds_toArray, List.set_cons_zero, List.set_cons_succ]
               rfl
              refine three_ (i := 11) (j := 15) (k := 16) (Ni := some 29) (Nj := some 5) (Nk := some 6) #[true, true, true, true, true, true, true, true, true, true, true, true, false, false, false, false, false, false, false] #[true, true, true, true, true, true, true, true, true, true, true, false, false, false, false, true, false, false, false] #[true, true, true, true, true, true, true, true, true, true, true, false, false, false, false, false, true, false, false] rfl rfl rfl rfl rfl rfl (three_of HT_.out (by kernel_rfl)) (by decide) (by decide) (by decide) (fun K hK => ?_) (fun K hK => ?_) (fun K hK => ?_)
              ·skip
               refine goes_ Tryd.func43 (by kernel_rfl) rfl #[.agg #[.int .u32 (Go.bits .and .u32 aj t126), .int .i64 (wrap64 (ai - 1))]] (by rfl) rfl rfl (by (try simp only [List.map_toArray, List.map_cons, List.map_nil]); first | done | rfl) ?_
               with_reducible refine (addr_halves.calls (Go.bits .and .u32 aj t126) (wrap64 (ai - 1)) t127 t128 t129 t130 _ ba.out).mono ?_
               rintro e w37 ⟨rfl, hb⟩
               refine ⟨_, rfl, ?_⟩
               replace ab := Aside0.mk (blk_below (g := aa) (by (with_reducible repeat (first | refine blk_drewN ?_ _ | refine blk_drew ?_ | refine blk_alloc ?_ _)); exact ab.out) hb)
               replace af := Aside0.mk (blk_below (g := ad) (by (with_reducible repeat (first | refine blk_drewN ?_ _ | refine blk_drew ?_ | refine blk_alloc ?_ _)); exact af.out) hb)
               replace HB := Aside0.mk (below_step (by repeat (first | (with_reducible first | exact HB.out | apply below_alloc | apply pw_below_drewN | apply below_drew1 | refine below_set ?_ ao.out | refine below_set ?_ ar.out) | exact HB.out)) hb)
               (try clear hb)
               (try clear hb2)
               (try clear hk)
               (try clear hi)
               refine hK.out _ _ (k4592.b2e ab.out) (fun hHeld => ?_)
               clear hK K
               refine norm_ (a' := ?_) ?_ ?_
               rotate_left
               ·show Act.put _ (some 29) _ = _
                simp only [Act.put, List.setIfInBounds_toArray, List.set_cons_zero, List.set_cons_succ, i64_w]
                rfl
               refine pure_ (i := 12) (N := some 17) (v := ?_) (a' := ?_) #[true, true, true, true, true, true, true, true, true, true, true, true, true, false, false, false, false, false, false] rfl rfl (any_of HT_.out (by kernel_rfl)) (fun _ _ _ h => h) (Or.inl ⟨by rfl, ?_⟩) ?_ ?_
               rotate_left
               ·intro w'
                go_simp
                with_reducible rfl
               rotate_left
               ·simp only [Act.put, List.setIfInBounds_toArray, List.set_cons_zero, List.set_cons_succ, i64_w]
                rfl
               refine pure_ (i := 13) (N := some 30) (v := ?_) (a' := ?_) #[true, true, true, true, true, true, true, true, true, true, true, true, true, true, false, false, false, false, false] rfl rfl (any_of HT_.out (by kernel_rfl)) (fun _ _ _ h => h) (Or.inl ⟨by rfl, ?_⟩) ?_ ?_
               rotate_left
               ·intro w'
                go_simp
                with_reducible rfl
               rotate_left
               ·simp only [Act.put, List.setIfInBounds_toArray, List.set_cons_zero, List.set_cons_succ, i64_w]
                rfl
               refine pure_ (i := 14) (N := some 31) (v := ?_) (a' := ?_) #[true, true, true, true, true, true, true, true, true, true, true, true, true, true, true, false, false, false, false] rfl rfl (any_of HT_.out (by kernel_rfl)) (fun _ _ _ h => h) (Or.inl ⟨by rfl, ?_⟩) ?_ ?_
               rotate_left
               ·intro w'
                go_simp
                with_reducible rfl
               rotate_left
               ·simp only [Act.put, List.setIfInBounds_toArray, List.set_cons_zero, List.set_cons_succ, i64_w]
                rfl
               exact norm_ (by first | (simp only [putAll, Act.put, List.setIfInBounds_toArray, List.set_cons_zero, List.set_cons_succ]; done) | (simp only [putAll, Act.put, List.setIfInBounds_toArray, List.set_cons_zero, List.set_cons_succ]; rfl)) (hJ5_11 () _ ⟨hHeld, (by (with_reducible repeat (first | refine blk_drewN ?_ _ | refine blk_drew ?_ | refine blk_alloc ?_ _)); exact ab.out), (by (with_reducible repeat (first | refine blk_drewN ?_ _ | refine blk_drew ?_ | refine blk_alloc ?_ _)); exact af.out), (by repeat (first | (with_reducible first | exact HB.out | apply below_alloc | apply pw_below_drewN | apply below_drew1 | refine below_set ?_ ao.out | refine below_set ?_ ar.out) | exact HB.out))⟩)
              ·skip
               refine box_step ?hg (N := 5) ?hd (cs := #[.int .u32 0, .int .i64 0]) (t := 24) ?hr ?_; (case hd => rfl); (case hg => rfl); (case hr => first | (go_simp; done) | (go_simp; rfl))
               intro ac hg w37 hbox hb
               have n0_ := Aside0.mk (blk_below (g := aa) (by (with_reducible repeat (first | refine blk_drewN ?_ _ | refine blk_drew ?_ | refine blk_alloc ?_ _)); exact ab.out) hb)
               have n1_ := Aside0.mk (blk_below (g := ad) (by (with_reducible repeat (first | refine blk_drewN ?_ _ | refine blk_drew ?_ | refine blk_alloc ?_ _)); exact af.out) hb)
               have n2_ := Aside0.mk (below_step (by repeat (first | (with_reducible first | exact HB.out | apply below_alloc | apply pw_below_drewN | apply below_drew1 | refine below_set ?_ ao.out | refine below_set ?_ ar.out) | exact HB.out)) hb)
               have n3_ := Aside0.mk (hbox)
               have n4_ := Aside0.mk ((by rw [hg]; exact (below_size (by repeat (first | (with_reducible first | exact HB.out | apply below_alloc | apply pw_below_drewN | apply below_drew1 | refine below_set ?_ ao.out | refine below_set ?_ ar.out) | exact HB.out))) : w.heap.size ≤ ac))
               have n5_ := Aside0.mk ((by rw [hg]; exact (below_size (by repeat (first | (with_reducible first | exact HB.out | apply below_alloc | apply pw_below_drewN | apply below_drew1 | refine below_set ?_ ao.out | refine below_set ?_ ar.out) | exact HB.out))) : w.heap.size ≤ ac))
               have n6_ := Aside0.mk ((by rw [hg]; exact Nat.ne_of_lt (blk_lt (g := aa) (o := .cells #[.int .u32 aj, .int .i64 ai] 24 (0, 0)) (by (with_reducible repeat (first | refine blk_drewN ?_ _ | refine blk_drew ?_ | refine blk_alloc ?_ _)); exact ab.out)) : aa ≠ ac))
               have n7_ := Aside0.mk ((by rw [hg]; exact Nat.ne_of_gt (blk_lt (g := aa) (o := .cells #[.int .u32 aj, .int .i64 ai] 24 (0, 0)) (by (with_reducible repeat (first | refine blk_drewN ?_ _ | refine blk_drew ?_ | refine blk_alloc ?_ _)); exact ab.out)) : ac ≠ aa))
               have n8_ := Aside0.mk ((by rw [hg]; exact Nat.ne_of_lt (blk_lt (g := ad) (o := .cells #[.int .u32 a5, .int .i64 a4] 24 (0, 0)) (by (with_reducible repeat (first | refine blk_drewN ?_ _ | refine blk_drew ?_ | refine blk_alloc ?_ _)); exact af.out)) : ad ≠ ac))
               have n9_ := Aside0.mk ((by rw [hg]; exact Nat.ne_of_gt (blk_lt (g := ad) (o := .cells #[.int .u32 a5, .int .i64 a4] 24 (0, 0)) (by (with_reducible repeat (first | refine blk_drewN ?_ _ | refine blk_drew ?_ | refine blk_alloc ?_ _)); exact af.out)) : ac ≠ ad))
               clear ab
               clear af
               clear HB
               have ab := n0_
               have af := n1_
               have HB := n2_
               have au := n3_
               have a6 := n4_
               have ax := n5_
               have ag := n6_
               have ak := n7_
               have al := n8_
               have am := n9_
               clear n0_ n1_ n2_ n3_ n4_ n5_ n6_ n7_ n8_ n9_
               clear hb hbox hg
               refine hK.out _ _ (k4592.b2e ab.out) (fun hHeld => ?_)
               clear hK K
               refine norm_ (a' := ?_) ?_ ?_
               rotate_left
               ·show Act.put _ (some 5) _ = _
                simp only [Act.put, List.setIfInBounds_toArray, List.set_cons_zero, List.set_cons_succ, i64_w]
                rfl
               exact norm_ (by first | (simp only [putAll, Act.put, List.setIfInBounds_toArray, List.set_cons_zero, List.set_cons_succ]; done) | (simp only [putAll, Act.put, List.setIfInBounds_toArray, List.set_cons_zero, List.set_cons_succ]; rfl)) (hJ5_15 (ac) _ ⟨hHeld, (by (with_reducible repeat (first | refine blk_drewN ?_ _ | refine blk_drew ?_ | refine blk_alloc ?_ _)); exact ab.out), (by (with_reducible repeat (first | refine blk_drewN ?_ _ | refine blk_drew ?_ | refine blk_alloc ?_ _)); exact af.out), (by (with_reducible repeat (first | refine blk_drewN ?_ _ | refine blk_drew ?_ | refine blk_alloc ?_ _)); exact au.out), a6.out, ax.out, ag.out, ak.out, al.out, am.out, (by repeat (first | (with_reducible first | exact HB.out | apply below_alloc | apply pw_below_drewN | apply below_drew1 | refine below_set ?_ ao.out | refine below_set ?_ ar.out | refine below_set ?_ ax.out) | exact HB.out))⟩)
              ·skip
               refine box_step ?hg (N := 6) ?hd (cs := #[.int .u32 0, .int .i64 0]) (t := 24) ?hr ?_; (case hd => rfl); (case hg => rfl); (case hr => first | (go_simp; done) | (go_simp; rfl))
               intro ae hg w37 hbox hb
               have n0_ := Aside0.mk (blk_below (g := aa) (by (with_reducible repeat (first | refine blk_drewN ?_ _ | refine blk_drew ?_ | refine blk_alloc ?_ _)); exact ab.out) hb)
               have n1_ := Aside0.mk (blk_below (g := ad) (by (with_reducible repeat (first | refine blk_drewN ?_ _ | refine blk_drew ?_ | refine blk_alloc ?_ _)); exact af.out) hb)
               have n2_ := Aside0.mk (below_step (by repeat (first | (with_reducible first | exact HB.out | apply below_alloc | apply pw_below_drewN | apply below_drew1 | refine below_set ?_ ao.out | refine below_set ?_ ar.out) | exact HB.out)) hb)
               have n3_ := Aside0.mk (hbox)
               have n4_ := Aside0.mk ((by rw [hg]; exact (below_size (by repeat (first | (with_reducible first | exact HB.out | apply below_alloc | apply pw_below_drewN | apply below_drew1 | refine below_set ?_ ao.out | refine below_set ?_ ar.out) | exact HB.out))) : w.heap.size ≤ ae))
               have n5_ := Aside0.mk ((by rw [hg]; exact (below_size (by repeat (first | (with_reducible first | exact HB.out | apply below_alloc | apply pw_below_drewN | apply below_drew1 | refine below_set ?_ ao.out | refine below_set ?_ ar.out) | exact HB.out))) : w.heap.size ≤ ae))
               have n6_ := Aside0.mk ((by rw [hg]; exact Nat.ne_of_lt (blk_lt (g := aa) (o := .cells #[.int .u32 aj, .int .i64 ai] 24 (0, 0)) (by (with_reducible repeat (first | refine blk_drewN ?_ _ | refine blk_drew ?_ | refine blk_alloc ?_ _)); exact ab.out)) : aa ≠ ae))
               have n7_ := Aside0.mk ((by rw [hg]; exact Nat.ne_of_gt (blk_lt (g := aa) (o := .cells #[.int .u32 aj, .int .i64 ai] 24 (0, 0)) (by (with_reducible repeat (first | refine blk_drewN ?_ _ | refine blk_drew ?_ | refine blk_alloc ?_ _)); exact ab.out)) : ae ≠ aa))
               have n8_ := Aside0.mk ((by rw [hg]; exact Nat.ne_of_lt (blk_lt (g := ad) (o := .cells #[.int .u32 a5, .int .i64 a4] 24 (0, 0)) (by (with_reducible repeat (first | refine blk_drewN ?_ _ | refine blk_drew ?_ | refine blk_alloc ?_ _)); exact af.out)) : ad ≠ ae))
               have n9_ := Aside0.mk ((by rw [hg]; exact Nat.ne_of_gt (blk_lt (g := ad) (o := .cells #[.int .u32 a5, .int .i64 a4] 24 (0, 0)) (by (with_reducible repeat (first | refine blk_drewN ?_ _ | refine blk_drew ?_ | refine blk_alloc ?_ _)); exact af.out)) : ae ≠ ad))
               clear ab
               clear af
               clear HB
               have ab := n0_
               have af := n1_
               have HB := n2_
               have ay := n3_
               have a7 := n4_
               have az := n5_
               have ah := n6_
               have an := n7_
               have ap := n8_
               have aq := n9_
               clear n0_ n1_ n2_ n3_ n4_ n5_ n6_ n7_ n8_ n9_
               clear hb hbox hg
               refine hK.out _ _ (k4592.b2e ab.out) (fun hHeld => ?_)
               clear hK K
               refine norm_ (a' := ?_) ?_ ?_
               rotate_left
               ·show Act.put _ (some 6) _ = _
                simp only [Act.put, List.setIfInBounds_toArray, List.set_cons_zero, List.set_cons_succ, i64_w]
                rfl
               exact norm_ (by first | (simp only [putAll, Act.put, List.setIfInBounds_toArray, List.set_cons_zero, List.set_cons_succ]; done) | (simp only [putAll, Act.put, List.setIfInBounds_toArray, List.set_cons_zero, List.set_cons_succ]; rfl)) (hJ5_16 (ae) _ ⟨hHeld, (by (with_reducible repeat (first | refine blk_drewN ?_ _ | refine blk_drew ?_ | refine blk_alloc ?_ _)); exact ab.out), (by (with_reducible repeat (first | refine blk_drewN ?_ _ | refine blk_drew ?_ | refine blk_alloc ?_ _)); exact af.out), (by (with_reducible repeat (first | refine blk_drewN ?_ _ | refine blk_drew ?_ | refine blk_alloc ?_ _)); exact ay.out), a7.out, az.out, ah.out, an.out, ap.out, aq.out, (by repeat (first | (with_reducible first | exact HB.out | apply below_alloc | apply pw_below_drewN | apply below_drew1 | refine below_set ?_ ao.out | refine below_set ?_ ar.out | refine below_set ?_ az.out) | exact HB.out))⟩)
            ·skip
             rintro ⟨ac, ae⟩ w38 ⟨hS_, h0_, h1_, h2_, h3_, h4_, h5_, h6_, h7_, h8_, h9_, h10_, h11_, h12_, h13_, h14_, h15_, h16_, h17_, h18_⟩
             have n0_ : Aside0 (w38.heap[aa]? = some (.cells #[.int .u32 aj, .int .i64 ai] 24 (0, 0))) := ⟨h0_⟩
             have n1_ : Aside0 (w38.heap[ad]? = some (.cells #[.int .u32 a5, .int .i64 a4] 24 (0, 0))) := ⟨h1_⟩
             have n2_ : Aside0 (w38.heap[ac]? = some (.cells #[.int .u32 0, .int .i64 0] 24 (0, 0))) := ⟨h2_⟩
             have n3_ : Aside0 (w38.heap[ae]? = some (.cells #[.int .u32 0, .int .i64 0] 24 (0, 0))) := ⟨h3_⟩
             have n4_ : Aside0 (w.heap.size ≤ ac) := ⟨h4_⟩
             have n5_ : Aside0 (w.heap.size ≤ ac) := ⟨h5_⟩
             have n6_ : Aside0 (aa ≠ ac) := ⟨h6_⟩
             have n7_ : Aside0 (ac ≠ aa) := ⟨h7_⟩
             have n8_ : Aside0 (ad ≠ ac) := ⟨h8_⟩
             have n9_ : Aside0 (ac ≠ ad) := ⟨h9_⟩
             have n10_ : Aside0 (ae ≠ ac) := ⟨h10_⟩
             have n11_ : Aside0 (ac ≠ ae) := ⟨h11_⟩
             have n12_ : Aside0 (w.heap.size ≤ ae) := ⟨h12_⟩
             have n13_ : Aside0 (w.heap.size ≤ ae) := ⟨h13_⟩
             have n14_ : Aside0 (aa ≠ ae) := ⟨h14_⟩
             have n15_ : Aside0 (ae ≠ aa) := ⟨h15_⟩
             have n16_ : Aside0 (ad ≠ ae) := ⟨h16_⟩
             have n17_ : Aside0 (ae ≠ ad) := ⟨h17_⟩
             have n18_ : Aside0 (Below w.heap.size w w38) := ⟨h18_⟩
             clear ab
             clear af
             clear HB
             clear h0_ h1_ h2_ h3_ h4_ h5_ h6_ h7_ h8_ h9_ h10_ h11_ h12_ h13_ h14_ h15_ h16_ h17_ h18_
             have ab := n0_
             have af := n1_
             have au := n2_
             have ay := n3_
             have a6 := n4_
             have ax := n5_
             have ag := n6_
             have ak := n7_
             have al := n8_
             have am := n9_
             have av := n10_
             have aw := n11_
             have a7 := n12_
             have az := n13_
             have ah := n14_
             have an := n15_
             have ap := n16_
             have aq := n17_
             have HB := n18_
             clear n0_ n1_ n2_ n3_ n4_ n5_ n6_ n7_ n8_ n9_ n10_ n11_ n12_ n13_ n14_ n15_ n16_ n17_ n18_
             have hHeld : w38.cell? ⟨aa, 0, none⟩ = some (.int .u32 aj) ∧ w38.cell? ⟨aa, 1, none⟩ = some (.int .i64 ai) := hS_
             refine norm_ (a' := ?_) ?_ ?_
             rotate_left
             ·simp only [putAll, Act.put, List.setIfInBounds_toArray, List.set_cons_zero, List.set_cons_succ]
              rfl
             refine one_ (i := 5) (N := some 23) #[true, true, true, true, true, true, false, true, true, true, false, false, false, false, false, true, true, false, false] rfl rfl (one_of HT_.out (by kernel_rfl)) (by decide) (fun K hK => ?_)
             refine goes_ Tryd.func15 (by kernel_rfl) rfl #[.int .i64 (wrap64 (ai - 1))] (by rfl) rfl rfl (by (try simp only [List.map_toArray, List.map_cons, List.map_nil]); first | done | rfl) ?_
             with_reducible refine (addr_mask.calls (wrap64 (ai - 1)) t126 _ a9.out).mono ?_
             rintro e w' ⟨rfl, ⟨nd, rfl⟩⟩
             refine ⟨_, rfl, ?_⟩
             refine hK.out _ _ (k4592.b2e ab.out) (fun hHeld => ?_)
             clear hK K
             refine norm_ (a' := ?_) ?_ ?_
             rotate_left
             ·show Act.put _ (some 23) _ = _
              simp only [Act.put, List.setIfInBounds_toArray, List.set_cons_zero, List.set_cons_succ, i64_w]
              rfl
             refine pure_ (i := 6) (N := some 24) (v := ?_) (a' := ?_) #[true, true, true, true, true, true, true, true, true, true, false, false, false, false, false, true, true, false, false] rfl rfl (any_of HT_.out (by kernel_rfl)) (fun _ _ _ h => h) (Or.inl ⟨by rfl, ?_⟩) ?_ ?_
             rotate_left
             ·intro w'
              go_simp
              with_reducible rfl
             rotate_left
             ·simp only [Act.put, List.setIfInBounds_toArray, List.set_cons_zero, List.set_cons_succ, i64_w]
              rfl
             refine pure_ (i := 10) (N := some 28) (v := ?_) (a' := ?_) #[true, true, true, true, true, true, true, true, true, true, true, false, false, false, false, true, true, false, false] rfl rfl (any_of HT_.out (by kernel_rfl)) (fun _ _ _ h => h) (Or.inl ⟨by rfl, ?_⟩) ?_ ?_
             rotate_left
             ·intro w'
              go_simp
              with_reducible rfl
             rotate_left
             ·simp only [Act.put, List.setIfInBounds_toArray, List.set_cons_zero, List.set_cons_succ, i64_w]
              rfl
             exact norm_ (by first | (simp only [putAll, Act.put, List.setIfInBounds_toArray, List.set_cons_zero, List.set_cons_succ]; done) | (simp only [putAll, Act.put, List.setIfInBounds_toArray, List.set_cons_zero, List.set_cons_succ]; rfl)) (hJ5_15_16 (ac, ae) _ ⟨hHeld, (by (with_reducible repeat (first | refine blk_drewN ?_ _ | refine blk_drew ?_ | refine blk_alloc ?_ _)); exact ab.out), (by (with_reducible repeat (first | refine blk_drewN ?_ _ | refine blk_drew ?_ | refine blk_alloc ?_ _)); exact af.out), (by (with_reducible repeat (first | refine blk_drewN ?_ _ | refine blk_drew ?_ | refine blk_alloc ?_ _)); exact au.out), (by (with_reducible repeat (first | refine blk_drewN ?_ _ | refine blk_drew ?_ | refine blk_alloc ?_ _)); exact ay.out), a6.out, ax.out, ag.out, ak.out, al.out, am.out, av.out, aw.out, a7.out, az.out, ah.out, an.out, ap.out, aq.out, (by repeat (first | (with_reducible first | exact HB.out | apply below_alloc | apply pw_below_drewN | apply below_drew1 | refine below_set ?_ ao.out | refine below_set ?_ ar.out | refine below_set ?_ ax.out | refine below_set ?_ az.out) | exact HB.out))⟩)
           ·skip
            rintro ae w37 ⟨hS_, h0_, h1_, h2_, h3_, h4_, h5_, h6_, h7_, h8_, h9_⟩
            have n0_ : Aside0 (w37.heap[aa]? = some (.cells #[.int .u32 aj, .int .i64 ai] 24 (0, 0))) := ⟨h0_⟩
            have n1_ : Aside0 (w37.heap[ad]? = some (.cells #[.int .u32 a5, .int .i64 a4] 24 (0, 0))) := ⟨h1_⟩
            have n2_ : Aside0 (w37.heap[ae]? = some (.cells #[.int .u32 0, .int .i64 0] 24 (0, 0))) := ⟨h2_⟩
            have n3_ : Aside0 (w.heap.size ≤ ae) := ⟨h3_⟩
            have n4_ : Aside0 (w.heap.size ≤ ae) := ⟨h4_⟩
            have n5_ : Aside0 (aa ≠ ae) := ⟨h5_⟩
            have n6_ : Aside0 (ae ≠ aa) := ⟨h6_⟩
            have n7_ : Aside0 (ad ≠ ae) := ⟨h7_⟩
            have n8_ : Aside0 (ae ≠ ad) := ⟨h8_⟩
            have n9_ : Aside0 (Below w.heap.size w w37) := ⟨h9_⟩
            clear ab
            clear af
            clear HB
            clear h0_ h1_ h2_ h3_ h4_ h5_ h6_ h7_ h8_ h9_
            have ab := n0_
            have af := n1_
            have ay := n2_
            have a7 := n3_
            have az := n4_
            have ah := n5_
            have an := n6_
            have ap := n7_
            have aq := n8_
            have HB := n9_
            clear n0_ n1_ n2_ n3_ n4_ n5_ n6_ n7_ n8_ n9_
            have hHeld : w37.cell? ⟨aa, 0, none⟩ = some (.int .u32 aj) ∧ w37.cell? ⟨aa, 1, none⟩ = some (.int .i64 ai) := hS_
            refine norm_ (a' := ?_) ?_ ?_
            rotate_left
            ·simp only [putAll, Act.put, List.setIfInBounds_toArray, List.set_cons_zero, List.set_cons_succ]
             rfl
            refine two_ (i := 11) (j := 15) (Ni := some 29) (Nj := some 5) #[true, true, true, true, true, true, true, true, true, true, true, true, false, false, false, false, true, false, false] #[true, true, true, true, true, true, true, true, true, true, true, false, false, false, false, true, true, false, false] rfl rfl rfl rfl (two_of HT_.out (by kernel_rfl)) (by decide) (by decide) (fun K hK => ?_) (fun K hK => ?_)
            ·skip
             refine goes_ Tryd.func43 (by kernel_rfl) rfl #[.agg #[.int .u32 (Go.bits .and .u32 aj t126), .int .i64 (wrap64 (ai - 1))]] (by rfl) rfl rfl (by (try simp only [List.map_toArray, List.map_cons, List.map_nil]); first | done | rfl) ?_
             with_reducible refine (addr_halves.calls (Go.bits .and .u32 aj t126) (wrap64 (ai - 1)) t127 t128 t129 t130 _ ba.out).mono ?_
             rintro e w38 ⟨rfl, hb⟩
             refine ⟨_, rfl, ?_⟩
             replace ab := Aside0.mk (blk_below (g := aa) (by (with_reducible repeat (first | refine blk_drewN ?_ _ | refine blk_drew ?_ | refine blk_alloc ?_ _)); exact ab.out) hb)
             replace af := Aside0.mk (blk_below (g := ad) (by (with_reducible repeat (first | refine blk_drewN ?_ _ | refine blk_drew ?_ | refine blk_alloc ?_ _)); exact af.out) hb)
             replace ay := Aside0.mk (blk_below (g := ae) (by (with_reducible repeat (first | refine blk_drewN ?_ _ | refine blk_drew ?_ | refine blk_alloc ?_ _)); exact ay.out) hb)
             replace HB := Aside0.mk (below_step (by repeat (first | (with_reducible first | exact HB.out | apply below_alloc | apply pw_below_drewN | apply below_drew1 | refine below_set ?_ ao.out | refine below_set ?_ ar.out | refine below_set ?_ az.out) | exact HB.out)) hb)
             (try clear hb)
             (try clear hb2)
             (try clear hk)
             (try clear hi)
             refine hK.out _ _ (k4592.b2e ab.out) (fun hHeld => ?_)
             clear hK K
             refine norm_ (a' := ?_) ?_ ?_
             rotate_left
             ·show Act.put _ (some 29) _ = _
              simp only [Act.put, List.setIfInBounds_toArray, List.set_cons_zero, List.set_cons_succ, i64_w]
              rfl
             refine pure_ (i := 12) (N := some 17) (v := ?_) (a' := ?_) #[true, true, true, true, true, true, true, true, true, true, true, true, true, false, false, false, true, false, false] rfl rfl (any_of HT_.out (by kernel_rfl)) (fun _ _ _ h => h) (Or.inl ⟨by rfl, ?_⟩) ?_ ?_
             rotate_left
             ·intro w'
              go_simp
              with_reducible rfl
             rotate_left
             ·simp only [Act.put, List.setIfInBounds_toArray, List.set_cons_zero, List.set_cons_succ, i64_w]
              rfl
             refine pure_ (i := 13) (N := some 30) (v := ?_) (a' := ?_) #[true, true, true, true, true, true, true, true, true, true, true, true, true, true, false, false, true, false, false] rfl rfl (any_of HT_.out (by kernel_rfl)) (fun _ _ _ h => h) (Or.inl ⟨by rfl, ?_⟩) ?_ ?_
             rotate_left
             ·intro w'
              go_simp
              with_reducible rfl
             rotate_left
             ·simp only [Act.put, List.setIfInBounds_toArray, List.set_cons_zero, List.set_cons_succ, i64_w]
              rfl
             refine pure_ (i := 14) (N := some 31) (v := ?_) (a' := ?_) #[true, true, true, true, true, true, true, true, true, true, true, true, true, true, true, false, true, false, false] rfl rfl (any_of HT_.out (by kernel_rfl)) (fun _ _ _ h => h) (Or.inl ⟨by rfl, ?_⟩) ?_ ?_
             rotate_left
             ·intro w'
              go_simp
              with_reducible rfl
             rotate_left
             ·simp only [Act.put, List.setIfInBounds_toArray, List.set_cons_zero, List.set_cons_succ, i64_w]
              rfl
             exact norm_ (by first | (simp only [putAll, Act.put, List.setIfInBounds_toArray, List.set_cons_zero, List.set_cons_succ]; done) | (simp only [putAll, Act.put, List.setIfInBounds_toArray, List.set_cons_zero, List.set_cons_succ]; rfl)) (hJ5_11_16 (ae) _ ⟨hHeld, (by (with_reducible repeat (first | refine blk_drewN ?_ _ | refine blk_drew ?_ | refine blk_alloc ?_ _)); exact ab.out), (by (with_reducible repeat (first | refine blk_drewN ?_ _ | refine blk_drew ?_ | refine blk_alloc ?_ _)); exact af.out), (by (with_reducible repeat (first | refine blk_drewN ?_ _ | refine blk_drew ?_ | refine blk_alloc ?_ _)); exact ay.out), a7.out, az.out, ah.out, an.out, ap.out, aq.out, (by repeat (first | (with_reducible first | exact HB.out | apply below_alloc | apply pw_below_drewN | apply below_drew1 | refine below_set ?_ ao.out | refine below_set ?_ ar.out | refine below_set ?_ az.out) | exact HB.out))⟩)
            ·skip
             refine box_step ?hg (N := 5) ?hd (cs := #[.int .u32 0, .int .i64 0]) (t := 24) ?hr ?_; (case hd => rfl); (case hg => rfl); (case hr => first | (go_simp; done) | (go_simp; rfl))
             intro ac hg w38 hbox hb
             have n0_ := Aside0.mk (blk_below (g := aa) (by (with_reducible repeat (first | refine blk_drewN ?_ _ | refine blk_drew ?_ | refine blk_alloc ?_ _)); exact ab.out) hb)
             have n1_ := Aside0.mk (blk_below (g := ad) (by (with_reducible repeat (first | refine blk_drewN ?_ _ | refine blk_drew ?_ | refine blk_alloc ?_ _)); exact af.out) hb)
             have n2_ := Aside0.mk (blk_below (g := ae) (by (with_reducible repeat (first | refine blk_drewN ?_ _ | refine blk_drew ?_ | refine blk_alloc ?_ _)); exact ay.out) hb)
             have n3_ := Aside0.mk (below_step (by repeat (first | (with_reducible first | exact HB.out | apply below_alloc | apply pw_below_drewN | apply below_drew1 | refine below_set ?_ ao.out | refine below_set ?_ ar.out | refine below_set ?_ az.out) | exact HB.out)) hb)
             have n4_ := Aside0.mk (hbox)
             have n5_ := Aside0.mk ((by rw [hg]; exact (below_size (by repeat (first | (with_reducible first | exact HB.out | apply below_alloc | apply pw_below_drewN | apply below_drew1 | refine below_set ?_ ao.out | refine below_set ?_ ar.out | refine below_set ?_ az.out) | exact HB.out))) : w.heap.size ≤ ac))
             have n6_ := Aside0.mk ((by rw [hg]; exact (below_size (by repeat (first | (with_reducible first | exact HB.out | apply below_alloc | apply pw_below_drewN | apply below_drew1 | refine below_set ?_ ao.out | refine below_set ?_ ar.out | refine below_set ?_ az.out) | exact HB.out))) : w.heap.size ≤ ac))
             have n7_ := Aside0.mk ((by rw [hg]; exact Nat.ne_of_lt (blk_lt (g := aa) (o := .cells #[.int .u32 aj, .int .i64 ai] 24 (0, 0)) (by (with_reducible repeat (first | refine blk_drewN ?_ _ | refine blk_drew ?_ | refine blk_alloc ?_ _)); exact ab.out)) : aa ≠ ac))
             have n8_ := Aside0.mk ((by rw [hg]; exact Nat.ne_of_gt (blk_lt (g := aa) (o := .cells #[.int .u32 aj, .int .i64 ai] 24 (0, 0)) (by (with_reducible repeat (first | refine blk_drewN ?_ _ | refine blk_drew ?_ | refine blk_alloc ?_ _)); exact ab.out)) : ac ≠ aa))
             have n9_ := Aside0.mk ((by rw [hg]; exact Nat.ne_of_lt (blk_lt (g := ad) (o := .cells #[.int .u32 a5, .int .i64 a4] 24 (0, 0)) (by (with_reducible repeat (first | refine blk_drewN ?_ _ | refine blk_drew ?_ | refine blk_alloc ?_ _)); exact af.out)) : ad ≠ ac))
             have n10_ := Aside0.mk ((by rw [hg]; exact Nat.ne_of_gt (blk_lt (g := ad) (o := .cells #[.int .u32 a5, .int .i64 a4] 24 (0, 0)) (by (with_reducible repeat (first | refine blk_drewN ?_ _ | refine blk_drew ?_ | refine blk_alloc ?_ _)); exact af.out)) : ac ≠ ad))
             have n11_ := Aside0.mk ((by rw [hg]; exact Nat.ne_of_lt (blk_lt (g := ae) (o := .cells #[.int .u32 0, .int .i64 0] 24 (0, 0)) (by (with_reducible repeat (first | refine blk_drewN ?_ _ | refine blk_drew ?_ | refine blk_alloc ?_ _)); exact ay.out)) : ae ≠ ac))
             have n12_ := Aside0.mk ((by rw [hg]; exact Nat.ne_of_gt (blk_lt (g := ae) (o := .cells #[.int .u32 0, .int .i64 0] 24 (0, 0)) (by (with_reducible repeat (first | refine blk_drewN ?_ _ | refine blk_drew ?_ | refine blk_alloc ?_ _)); exact ay.out)) : ac ≠ ae))
             clear ab
             clear af
             clear ay
             clear HB
             have ab := n0_
             have af := n1_
             have ay := n2_
             have HB := n3_
             have au := n4_
             have a6 := n5_
             have ax := n6_
             have ag := n7_
             have ak := n8_
             have al := n9_
             have am := n10_
             have av := n11_
             have aw := n12_
             clear n0_ n1_ n2_ n3_ n4_ n5_ n6_ n7_ n8_ n9_ n10_ n11_ n12_
             clear hb hbox hg
             refine hK.out _ _ (k4592.b2e ab.out) (fun hHeld => ?_)
             clear hK K
             refine norm_ (a' := ?_) ?_ ?_
             rotate_left
             ·show Act.put _ (some 5) _ = _
              simp only [Act.put, List.setIfInBounds_toArray, List.set_cons_zero, List.set_cons_succ, i64_w]
              rfl
             exact norm_ (by first | (simp only [putAll, Act.put, List.setIfInBounds_toArray, List.set_cons_zero, List.set_cons_succ]; done) | (simp only [putAll, Act.put, List.setIfInBounds_toArray, List.set_cons_zero, List.set_cons_succ]; rfl)) (hJ5_15_16 (ac, ae) _ ⟨hHeld, (by (with_reducible repeat (first | refine blk_drewN ?_ _ | refine blk_drew ?_ | refine blk_alloc ?_ _)); exact ab.out), (by (with_reducible repeat (first | refine blk_drewN ?_ _ | refine blk_drew ?_ | refine blk_alloc ?_ _)); exact af.out), (by (with_reducible repeat (first | refine blk_drewN ?_ _ | refine blk_drew ?_ | refine blk_alloc ?_ _)); exact au.out), (by (with_reducible repeat (first | refine blk_drewN ?_ _ | refine blk_drew ?_ | refine blk_alloc ?_ _)); exact ay.out), a6.out, ax.out, ag.out, ak.out, al.out, am.out, av.out, aw.out, a7.out, az.out, ah.out, an.out, ap.out, aq.out, (by repeat (first | (with_reducible first | exact HB.out | apply below_alloc | apply pw_below_drewN | apply below_drew1 | refine below_set ?_ ao.out | refine below_set ?_ ar.out | refine below_set ?_ az.out | refine below_set ?_ ax.out) | exact HB.out))⟩)
          ·skip
           rintro ac w37 ⟨hS_, h0_, h1_, h2_, h3_, h4_, h5_, h6_, h7_, h8_, h9_⟩
           have n0_ : Aside0 (w37.heap[aa]? = some (.cells #[.int .u32 aj, .int .i64 ai] 24 (0, 0))) := ⟨h0_⟩
           have n1_ : Aside0 (w37.heap[ad]? = some (.cells #[.int .u32 a5, .int .i64 a4] 24 (0, 0))) := ⟨h1_⟩
           have n2_ : Aside0 (w37.heap[ac]? = some (.cells #[.int .u32 0, .int .i64 0] 24 (0, 0))) := ⟨h2_⟩
           have n3_ : Aside0 (w.heap.size ≤ ac) := ⟨h3_⟩
           have n4_ : Aside0 (w.heap.size ≤ ac) := ⟨h4_⟩
           have n5_ : Aside0 (aa ≠ ac) := ⟨h5_⟩
           have n6_ : Aside0 (ac ≠ aa) := ⟨h6_⟩
           have n7_ : Aside0 (ad ≠ ac) := ⟨h7_⟩
           have n8_ : Aside0 (ac ≠ ad) := ⟨h8_⟩
           have n9_ : Aside0 (Below w.heap.size w w37) := ⟨h9_⟩
           clear ab
           clear af
           clear HB
           clear h0_ h1_ h2_ h3_ h4_ h5_ h6_ h7_ h8_ h9_
           have ab := n0_
           have af := n1_
           have au := n2_
           have a6 := n3_
           have ax := n4_
           have ag := n5_
           have ak := n6_
           have al := n7_
           have am := n8_
           have HB := n9_
           clear n0_ n1_ n2_ n3_ n4_ n5_ n6_ n7_ n8_ n9_
           have hHeld : w37.cell? ⟨aa, 0, none⟩ = some (.int .u32 aj) ∧ w37.cell? ⟨aa, 1, none⟩ = some (.int .i64 ai) := hS_
           refine norm_ (a' := ?_) ?_ ?_
           rotate_left
           ·simp only [putAll, Act.put, List.setIfInBounds_toArray, List.set_cons_zero, List.set_cons_succ]
            rfl
           refine two_ (i := 11) (j := 16) (Ni := some 29) (Nj := some 6) #[true, true, true, true, true, true, true, true, true, true, true, true, false, false, false, true, false, false, false] #[true, true, true, true, true, true, true, true, true, true, true, false, false, false, false, true, true, false, false] rfl rfl rfl rfl (two_of HT_.out (by kernel_rfl)) (by decide) (by decide) (fun K hK => ?_) (fun K hK => ?_)
           ·skip
            refine goes_ Tryd.func43 (by kernel_rfl) rfl #[.agg #[.int .u32 (Go.bits .and .u32 aj t126), .int .i64 (wrap64 (ai - 1))]] (by rfl) rfl rfl (by (try simp only [List.map_toArray, List.map_cons, List.map_nil]); first | done | rfl) ?_
            with_reducible refine (addr_halves.calls (Go.bits .and .u32 aj t126) (wrap64 (ai - 1)) t127 t128 t129 t130 _ ba.out).mono ?_
            rintro e w38 ⟨rfl, hb⟩
            refine ⟨_, rfl, ?_⟩
            replace ab := Aside0.mk (blk_below (g := aa) (by (with_reducible repeat (first | refine blk_drewN ?_ _ | refine blk_drew ?_ | refine blk_alloc ?_ _)); exact ab.out) hb)
            replace af := Aside0.mk (blk_below (g := ad) (by (with_reducible repeat (first | refine blk_drewN ?_ _ | refine blk_drew ?_ | refine blk_alloc ?_ _)); exact af.out) hb)
            replace au := Aside0.mk (blk_below (g := ac) (by (with_reducible repeat (first | refine blk_drewN ?_ _ | refine blk_drew ?_ | refine blk_alloc ?_ _)); exact au.out) hb)
            replace HB := Aside0.mk (below_step (by repeat (first | (with_reducible first | exact HB.out | apply below_alloc | apply pw_below_drewN | apply below_drew1 | refine below_set ?_ ao.out | refine below_set ?_ ar.out | refine below_set ?_ ax.out) | exact HB.out)) hb)
            (try clear hb)
            (try clear hb2)
            (try clear hk)
            (try clear hi)
            refine hK.out _ _ (k4592.b2e ab.out) (fun hHeld => ?_)
            clear hK K
            refine norm_ (a' := ?_) ?_ ?_
            rotate_left
            ·show Act.put _ (some 29) _ = _
             simp only [Act.put, List.setIfInBounds_toArray, List.set_cons_zero, List.set_cons_succ, i64_w]
             rfl
            refine pure_ (i := 12) (N := some 17) (v := ?_) (a' := ?_) #[true, true, true, true, true, true, true, true, true, true, true, true, true, false, false, true, false, false, false] rfl rfl (any_of HT_.out (by kernel_rfl)) (fun _ _ _ h => h) (Or.inl ⟨by rfl, ?_⟩) ?_ ?_
            rotate_left
            ·intro w'
             go_simp
             with_reducible rfl
            rotate_left
            ·simp only [Act.put, List.setIfInBounds_toArray, List.set_cons_zero, List.set_cons_succ, i64_w]
             rfl
            refine pure_ (i := 13) (N := some 30) (v := ?_) (a' := ?_) #[true, true, true, true, true, true, true, true, true, true, true, true, true, true, false, true, false, false, false] rfl rfl (any_of HT_.out (by kernel_rfl)) (fun _ _ _ h => h) (Or.inl ⟨by rfl, ?_⟩) ?_ ?_
            rotate_left
            ·intro w'
             go_simp
             with_reducible rfl
            rotate_left
            ·simp only [Act.put, List.setIfInBounds_toArray, List.set_cons_zero, List.set_cons_succ, i64_w]
             rfl
            refine pure_ (i := 14) (N := some 31) (v := ?_) (a' := ?_) #[true, true, true, true, true, true, true, true, true, true, true, true, true, true, true, true, false, false, false] rfl rfl (any_of HT_.out (by kernel_rfl)) (fun _ _ _ h => h) (Or.inl ⟨by rfl, ?_⟩) ?_ ?_
            rotate_left
            ·intro w'
             go_simp
             with_reducible rfl
            rotate_left
            ·simp only [Act.put, List.setIfInBounds_toArray, List.set_cons_zero, List.set_cons_succ, i64_w]
             rfl
            exact norm_ (by first | (simp only [putAll, Act.put, List.setIfInBounds_toArray, List.set_cons_zero, List.set_cons_succ]; done) | (simp only [putAll, Act.put, List.setIfInBounds_toArray, List.set_cons_zero, List.set_cons_succ]; rfl)) (hJ5_11_15 (ac) _ ⟨hHeld, (by (with_reducible repeat (first | refine blk_drewN ?_ _ | refine blk_drew ?_ | refine blk_alloc ?_ _)); exact ab.out), (by (with_reducible repeat (first | refine blk_drewN ?_ _ | refine blk_drew ?_ | refine blk_alloc ?_ _)); exact af.out), (by (with_reducible repeat (first | refine blk_drewN ?_ _ | refine blk_drew ?_ | refine blk_alloc ?_ _)); exact au.out), a6.out, ax.out, ag.out, ak.out, al.out, am.out, (by repeat (first | (with_reducible first | exact HB.out | apply below_alloc | apply pw_below_drewN | apply below_drew1 | refine below_set ?_ ao.out | refine below_set ?_ ar.out | refine below_set ?_ ax.out) | exact HB.out))⟩)
           ·skip
            refine box_step ?hg (N := 6) ?hd (cs := #[.int .u32 0, .int .i64 0]) (t := 24) ?hr ?_; (case hd => rfl); (case hg => rfl); (case hr => first | (go_simp; done) | (go_simp; rfl))
            intro ae hg w38 hbox hb
            have n0_ := Aside0.mk (blk_below (g := aa) (by (with_reducible repeat (first | refine blk_drewN ?_ _ | refine blk_drew ?_ | refine blk_alloc ?_ _)); exact ab.out) hb)
            have n1_ := Aside0.mk (blk_below (g := ad) (by (with_reducible repeat (first | refine blk_drewN ?_ _ | refine blk_drew ?_ | refine blk_alloc ?_ _)); exact af.out) hb)
            have n2_ := Aside0.mk (blk_below (g := ac) (by (with_reducible repeat (first | refine blk_drewN ?_ _ | refine blk_drew ?_ | refine blk_alloc ?_ _)); exact au.out) hb)
            have n3_ := Aside0.mk (below_step (by repeat (first | (with_reducible first | exact HB.out | apply below_alloc | apply pw_below_drewN | apply below_drew1 | refine below_set ?_ ao.out | refine below_set ?_ ar.out | refine below_set ?_ ax.out) | exact HB.out)) hb)
            have n4_ := Aside0.mk (hbox)
            have n5_ := Aside0.mk ((by rw [hg]; exact (below_size (by repeat (first | (with_reducible first | exact HB.out | apply below_alloc | apply pw_below_drewN | apply below_drew1 | refine below_set ?_ ao.out | refine below_set ?_ ar.out | refine below_set ?_ ax.out) | exact HB.out))) : w.heap.size ≤ ae))
            have n6_ := Aside0.mk ((by rw [hg]; exact (below_size (by repeat (first | (with_reducible first | exact HB.out | apply below_alloc | apply pw_below_drewN | apply below_drew1 | refine below_set ?_ ao.out | refine below_set ?_ ar.out | refine below_set ?_ ax.out) | exact HB.out))) : w.heap.size ≤ ae))
            have n7_ := Aside0.mk ((by rw [hg]; exact Nat.ne_of_lt (blk_lt (g := aa) (o := .cells #[.int .u32 aj, .int .i64 ai] 24 (0, 0)) (by (with_reducible repeat (first | refine blk_drewN ?_ _ | refine blk_drew ?_ | refine blk_alloc ?_ _)); exact ab.out)) : aa ≠ ae))
            have n8_ := Aside0.mk ((by rw [hg]; exact Nat.ne_of_gt (blk_lt (g := aa) (o := .cells #[.int .u32 aj, .int .i64 ai] 24 (0, 0)) (by (with_reducible repeat (first | refine blk_drewN ?_ _ | refine blk_drew ?_ | refine blk_alloc ?_ _)); exact ab.out)) : ae ≠ aa))
            have n9_ := Aside0.mk ((by rw [hg]; exact Nat.ne_of_lt (blk_lt (g := ad) (o := .cells #[.int .u32 a5, .int .i64 a4] 24 (0, 0)) (by (with_reducible repeat (first | refine blk_drewN ?_ _ | refine blk_drew ?_ | refine blk_alloc ?_ _)); exact af.out)) : ad ≠ ae))
            have n10_ := Aside0.mk ((by rw [hg]; exact Nat.ne_of_gt (blk_lt (g := ad) (o := .cells #[.int .u32 a5, .int .i64 a4] 24 (0, 0)) (by (with_reducible repeat (first | refine blk_drewN ?_ _ | refine blk_drew ?_ | refine blk_alloc ?_ _)); exact af.out)) : ae ≠ ad))
            have n11_ := Aside0.mk ((by rw [hg]; exact Nat.ne_of_lt (blk_lt (g := ac) (o := .cells #[.int .u32 0, .int .i64 0] 24 (0, 0)) (by (with_reducible repeat (first | refine blk_drewN ?_ _ | refine blk_drew ?_ | refine blk_alloc ?_ _)); exact au.out)) : ac ≠ ae))
            have n12_ := Aside0.mk ((by rw [hg]; exact Nat.ne_of_gt (blk_lt (g := ac) (o := .cells #[.int .u32 0, .int .i64 0] 24 (0, 0)) (by (with_reducible repeat (first | refine blk_drewN ?_ _ | refine blk_drew ?_ | refine blk_alloc ?_ _)); exact au.out)) : ae ≠ ac))
            clear ab
            clear af
            clear au
            clear HB
            have ab := n0_
            have af := n1_
            have au := n2_
            have HB := n3_
            have ay := n4_
            have a7 := n5_
            have az := n6_
            have ah := n7_
            have an := n8_
            have ap := n9_
            have aq := n10_
            have aw := n11_
            have av := n12_
            clear n0_ n1_ n2_ n3_ n4_ n5_ n6_ n7_ n8_ n9_ n10_ n11_ n12_
            clear hb hbox hg
            refine hK.out _ _ (k4592.b2e ab.out) (fun hHeld => ?_)
            clear hK K
            refine norm_ (a' := ?_) ?_ ?_
            rotate_left
            ·show Act.put _ (some 6) _ = _
             simp only [Act.put, List.setIfInBounds_toArray, List.set_cons_zero, List.set_cons_succ, i64_w]
             rfl
            exact norm_ (by first | (simp only [putAll, Act.put, List.setIfInBounds_toArray, List.set_cons_zero, List.set_cons_succ]; done) | (simp only [putAll, Act.put, List.setIfInBounds_toArray, List.set_cons_zero, List.set_cons_succ]; rfl)) (hJ5_15_16 (ac, ae) _ ⟨hHeld, (by (with_reducible repeat (first | refine blk_drewN ?_ _ | refine blk_drew ?_ | refine blk_alloc ?_ _)); exact ab.out), (by (with_reducible repeat (first | refine blk_drewN ?_ _ | refine blk_drew ?_ | refine blk_alloc ?_ _)); exact af.out), (by (with_reducible repeat (first | refine blk_drewN ?_ _ | refine blk_drew ?_ | refine blk_alloc ?_ _)); exact au.out), (by (with_reducible repeat (first | refine blk_drewN ?_ _ | refine blk_drew ?_ | refine blk_alloc ?_ _)); exact ay.out), a6.out, ax.out, ag.out, ak.out, al.out, am.out, av.out, aw.out, a7.out, az.out, ah.out, an.out, ap.out, aq.out, (by repeat (first | (with_reducible first | exact HB.out | apply below_alloc | apply pw_below_drewN | apply below_drew1 | refine below_set ?_ ao.out | refine below_set ?_ ar.out | refine below_set ?_ ax.out | refine below_set ?_ az.out) | exact HB.out))⟩)
         ·skip
          rintro _ w37 ⟨hS_, h0_, h1_, h2_⟩
          have n0_ : Aside0 (w37.heap[aa]? = some (.cells #[.int .u32 aj, .int .i64 ai] 24 (0, 0))) := ⟨h0_⟩
          have n1_ : Aside0 (w37.heap[ad]? = some (.cells #[.int .u32 a5, .int .i64 a4] 24 (0, 0))) := ⟨h1_⟩
          have n2_ : Aside0 (Below w.heap.size w w37) := ⟨h2_⟩
          clear ab
          clear af
          clear HB
          clear h0_ h1_ h2_
          have ab := n0_
          have af := n1_
          have HB := n2_
          clear n0_ n1_ n2_
          have hHeld : w37.cell? ⟨aa, 0, none⟩ = some (.int .u32 aj) ∧ w37.cell? ⟨aa, 1, none⟩ = some (.int .i64 ai) := hS_
          refine norm_ (a' := ?_) ?_ ?_
          rotate_left
          ·simp only [putAll, Act.put, List.setIfInBounds_toArray, List.set_cons_zero, List.set_cons_succ]
           rfl
          refine two_ (i := 15) (j := 16) (Ni := some 5) (Nj := some 6) #[true, true, true, true, true, true, true, true, true, true, true, true, true, true, true, true, false, false, false] #[true, true, true, true, true, true, true, true, true, true, true, true, true, true, true, false, true, false, false] rfl rfl rfl rfl (two_of HT_.out (by kernel_rfl)) (by decide) (by decide) (fun K hK => ?_) (fun K hK => ?_)
          ·skip
           refine box_step ?hg (N := 5) ?hd (cs := #[.int .u32 0, .int .i64 0]) (t := 24) ?hr ?_; (case hd => rfl); (case hg => rfl); (case hr => first | (go_simp; done) | (go_simp; rfl))
           intro ac hg w38 hbox hb
           have n0_ := Aside0.mk (blk_below (g := aa) (by (with_reducible repeat (first | refine blk_drewN ?_ _ | refine blk_drew ?_ | refine blk_alloc ?_ _)); exact ab.out) hb)
           have n1_ := Aside0.mk (blk_below (g := ad) (by (with_reducible repeat (first | refine blk_drewN ?_ _ | refine blk_drew ?_ | refine blk_alloc ?_ _)); exact af.out) hb)
           have n2_ := Aside0.mk (below_step (by repeat (first | (with_reducible first | exact HB.out | apply below_alloc | apply pw_below_drewN | apply below_drew1 | refine below_set ?_ ao.out | refine below_set ?_ ar.out) | exact HB.out)) hb)
           have n3_ := Aside0.mk (hbox)
           have n4_ := Aside0.mk ((by rw [hg]; exact (below_size (by repeat (first | (with_reducible first | exact HB.out | apply below_alloc | apply pw_below_drewN | apply below_drew1 | refine below_set ?_ ao.out | refine below_set ?_ ar.out) | exact HB.out))) : w.heap.size ≤ ac))
           have n5_ := Aside0.mk ((by rw [hg]; exact (below_size (by repeat (first | (with_reducible first | exact HB.out | apply below_alloc | apply pw_below_drewN | apply below_drew1 | refine below_set ?_ ao.out | refine below_set ?_ ar.out) | exact HB.out))) : w.heap.size ≤ ac))
           have n6_ := Aside0.mk ((by rw [hg]; exact Nat.ne_of_lt (blk_lt (g := aa) (o := .cells #[.int .u32 aj, .int .i64 ai] 24 (0, 0)) (by (with_reducible repeat (first | refine blk_drewN ?_ _ | refine blk_drew ?_ | refine blk_alloc ?_ _)); exact ab.out)) : aa ≠ ac))
           have n7_ := Aside0.mk ((by rw [hg]; exact Nat.ne_of_gt (blk_lt (g := aa) (o := .cells #[.int .u32 aj, .int .i64 ai] 24 (0, 0)) (by (with_reducible repeat (first | refine blk_drewN ?_ _ | refine blk_drew ?_ | refine blk_alloc ?_ _)); exact ab.out)) : ac ≠ aa))
           have n8_ := Aside0.mk ((by rw [hg]; exact Nat.ne_of_lt (blk_lt (g := ad) (o := .cells #[.int .u32 a5, .int .i64 a4] 24 (0, 0)) (by (with_reducible repeat (first | refine blk_drewN ?_ _ | refine blk_drew ?_ | refine blk_alloc ?_ _)); exact af.out)) : ad ≠ ac))
           have n9_ := Aside0.mk ((by rw [hg]; exact Nat.ne_of_gt (blk_lt (g := ad) (o := .cells #[.int .u32 a5, .int .i64 a4] 24 (0, 0)) (by (with_reducible repeat (first | refine blk_drewN ?_ _ | refine blk_drew ?_ | refine blk_alloc ?_ _)); exact af.out)) : ac ≠ ad))
           clear ab
           clear af
           clear HB
           have ab := n0_
           have af := n1_
           have HB := n2_
           have au := n3_
           have a6 := n4_
           have ax := n5_
           have ag := n6_
           have ak := n7_
           have al := n8_
           have am := n9_
           clear n0_ n1_ n2_ n3_ n4_ n5_ n6_ n7_ n8_ n9_
           clear hb hbox hg
           refine hK.out _ _ (k4592.b2e ab.out) (fun hHeld => ?_)
           clear hK K
           refine norm_ (a' := ?_) ?_ ?_
           rotate_left
           ·show Act.put _ (some 5) _ = _
            simp only [Act.put, List.setIfInBounds_toArray, List.set_cons_zero, List.set_cons_succ, i64_w]
            rfl
           exact norm_ (by first | (simp only [putAll, Act.put, List.setIfInBounds_toArray, List.set_cons_zero, List.set_cons_succ]; done) | (simp only [putAll, Act.put, List.setIfInBounds_toArray, List.set_cons_zero, List.set_cons_succ]; rfl)) (hJ5_11_15 (ac) _ ⟨hHeld, (by (with_reducible repeat (first | refine blk_drewN ?_ _ | refine blk_drew ?_ | refine blk_alloc ?_ _)); exact ab.out), (by (with_reducible repeat (first | refine blk_drewN ?_ _ | refine blk_drew ?_ | refine blk_alloc ?_ _)); exact af.out), (by (with_reducible repeat (first | refine blk_drewN ?_ _ | refine blk_drew ?_ | refine blk_alloc ?_ _)); exact au.out), a6.out, ax.out, ag.out, ak.out, al.out, am.out, (by repeat (first | (with_reducible first | exact HB.out | apply below_alloc | apply pw_below_drewN | apply below_drew1 | refine below_set ?_ ao.out | refine below_set ?_ ar.out | refine below_set ?_ ax.out) | exact HB.out))⟩)
          ·skip
           refine box_step ?hg (N := 6) ?hd (cs := #[.int .u32 0, .int .i64 0]) (t := 24) ?hr ?_; (case hd => rfl); (case hg => rfl); (case hr => first | (go_simp; done) | (go_simp; rfl))
           intro ae hg w38 hbox hb
           have n0_ := Aside0.mk (blk_below (g := aa) (by (with_reducible repeat (first | refine blk_drewN ?_ _ | refine blk_drew ?_ | refine blk_alloc ?_ _)); exact ab.out) hb)
           have n1_ := Aside0.mk (blk_below (g := ad) (by (with_reducible repeat (first | refine blk_drewN ?_ _ | refine blk_drew ?_ | refine blk_alloc ?_ _)); exact af.out) hb)
           have n2_ := Aside0.mk (below_step (by repeat (first | (with_reducible first | exact HB.out | apply below_alloc | apply pw_below_drewN | apply below_drew1 | refine below_set ?_ ao.out | refine below_set ?_ ar.out) | exact HB.out)) hb)
           have n3_ := Aside0.mk (hbox)
           have n4_ := Aside0.mk ((by rw [hg]; exact (below_size (by repeat (first | (with_reducible first | exact HB.out | apply below_alloc | apply pw_below_drewN | apply below_drew1 | refine below_set ?_ ao.out | refine below_set ?_ ar.out) | exact HB.out))) : w.heap.size ≤ ae))
           have n5_ := Aside0.mk ((by rw [hg]; exact (below_size (by repeat (first | (with_reducible first | exact HB.out | apply below_alloc | apply pw_below_drewN | apply below_drew1 | refine below_set ?_ ao.out | refine below_set ?_ ar.out) | exact HB.out))) : w.heap.size ≤ ae))
           have n6_ := Aside0.mk ((by rw [hg]; exact Nat.ne_of_lt (blk_lt (g := aa) (o := .cells #[.int .u32 aj, .int .i64 ai] 24 (0, 0)) (by (with_reducible repeat (first | refine blk_drewN ?_ _ | refine blk_drew ?_ | refine blk_alloc ?_ _)); exact ab.out)) : aa ≠ ae))
           have n7_ := Aside0.mk ((by rw [hg]; exact Nat.ne_of_gt (blk_lt (g := aa) (o := .cells #[.int .u32 aj, .int .i64 ai] 24 (0, 0)) (by (with_reducible repeat (first | refine blk_drewN ?_ _ | refine blk_drew ?_ | refine blk_alloc ?_ _)); exact ab.out)) : ae ≠ aa))
           have n8_ := Aside0.mk ((by rw [hg]; exact Nat.ne_of_lt (blk_lt (g := ad) (o := .cells #[.int .u32 a5, .int .i64 a4] 24 (0, 0)) (by (with_reducible repeat (first | refine blk_drewN ?_ _ | refine blk_drew ?_ | refine blk_alloc ?_ _)); exact af.out)) : ad ≠ ae))
           have n9_ := Aside0.mk ((by rw [hg]; exact Nat.ne_of_gt (blk_lt (g := ad) (o := .cells #[.int .u32 a5, .int .i64 a4] 24 (0, 0)) (by (with_reducible repeat (first | refine blk_drewN ?_ _ | refine blk_drew ?_ | refine blk_alloc ?_ _)); exact af.out)) : ae ≠ ad))
           clear ab
           clear af
           clear HB
           have ab := n0_
           have af := n1_
           have HB := n2_
           have ay := n3_
           have a7 := n4_
           have az := n5_
           have ah := n6_
           have an := n7_
           have ap := n8_
           have aq := n9_
           clear n0_ n1_ n2_ n3_ n4_ n5_ n6_ n7_ n8_ n9_
           clear hb hbox hg
           refine hK.out _ _ (k4592.b2e ab.out) (fun hHeld => ?_)
           clear hK K
           refine norm_ (a' := ?_) ?_ ?_
           rotate_left
           ·show Act.put _ (some 6) _ = _
            simp only [Act.put, List.setIfInBounds_toArray, List.set_cons_zero, List.set_cons_succ, i64_w]
            rfl
           exact norm_ (by first | (simp only [putAll, Act.put, List.setIfInBounds_toArray, List.set_cons_zero, List.set_cons_succ]; done) | (simp only [putAll, Act.put, List.setIfInBounds_toArray, List.set_cons_zero, List.set_cons_succ]; rfl)) (hJ5_11_16 (ae) _ ⟨hHeld, (by (with_reducible repeat (first | refine blk_drewN ?_ _ | refine blk_drew ?_ | refine blk_alloc ?_ _)); exact ab.out), (by (with_reducible repeat (first | refine blk_drewN ?_ _ | refine blk_drew ?_ | refine blk_alloc ?_ _)); exact af.out), (by (with_reducible repeat (first | refine blk_drewN ?_ _ | refine blk_drew ?_ | refine blk_alloc ?_ _)); exact ay.out), a7.out, az.out, ah.out, an.out, ap.out, aq.out, (by repeat (first | (with_reducible first | exact HB.out | apply below_alloc | apply pw_below_drewN | apply below_drew1 | refine below_set ?_ ao.out | refine below_set ?_ ar.out | refine below_set ?_ az.out) | exact HB.out))⟩)
        ·skip
         rintro ⟨ac, ae⟩ w38 ⟨hS_, h0_, h1_, h2_, h3_, h4_, h5_, h6_, h7_, h8_, h9_, h10_, h11_, h12_, h13_, h14_, h15_, h16_, h17_, h18_⟩
         have n0_ : Aside0 (w38.heap[aa]? = some (.cells #[.int .u32 aj, .int .i64 ai] 24 (0, 0))) := ⟨h0_⟩
         have n1_ : Aside0 (w38.heap[ad]? = some (.cells #[.int .u32 a5, .int .i64 a4] 24 (0, 0))) := ⟨h1_⟩
         have n2_ : Aside0 (w38.heap[ac]? = some (.cells #[.int .u32 0, .int .i64 0] 24 (0, 0))) := ⟨h2_⟩
         have n3_ : Aside0 (w38.heap[ae]? = some (.cells #[.int .u32 0, .int .i64 0] 24 (0, 0))) := ⟨h3_⟩
         have n4_ : Aside0 (w.heap.size ≤ ac) := ⟨h4_⟩
         have n5_ : Aside0 (w.heap.size ≤ ac) := ⟨h5_⟩
         have n6_ : Aside0 (aa ≠ ac) := ⟨h6_⟩
         have n7_ : Aside0 (ac ≠ aa) := ⟨h7_⟩
         have n8_ : Aside0 (ad ≠ ac) := ⟨h8_⟩
         have n9_ : Aside0 (ac ≠ ad) := ⟨h9_⟩
         have n10_ : Aside0 (ae ≠ ac) := ⟨h10_⟩
         have n11_ : Aside0 (ac ≠ ae) := ⟨h11_⟩
         have n12_ : Aside0 (w.heap.size ≤ ae) := ⟨h12_⟩
         have n13_ : Aside0 (w.heap.size ≤ ae) := ⟨h13_⟩
         have n14_ : Aside0 (aa ≠ ae) := ⟨h14_⟩
         have n15_ : Aside0 (ae ≠ aa) := ⟨h15_⟩
         have n16_ : Aside0 (ad ≠ ae) := ⟨h16_⟩
         have n17_ : Aside0 (ae ≠ ad) := ⟨h17_⟩
         have n18_ : Aside0 (Below w.heap.size w w38) := ⟨h18_⟩
         clear ab
         clear af
         clear HB
         clear h0_ h1_ h2_ h3_ h4_ h5_ h6_ h7_ h8_ h9_ h10_ h11_ h12_ h13_ h14_ h15_ h16_ h17_ h18_
         have ab := n0_
         have af := n1_
         have au := n2_
         have ay := n3_
         have a6 := n4_
         have ax := n5_
         have ag := n6_
         have ak := n7_
         have al := n8_
         have am := n9_
         have av := n10_
         have aw := n11_
         have a7 := n12_
         have az := n13_
         have ah := n14_
         have an := n15_
         have ap := n16_
         have aq := n17_
         have HB := n18_
         clear n0_ n1_ n2_ n3_ n4_ n5_ n6_ n7_ n8_ n9_ n10_ n11_ n12_ n13_ n14_ n15_ n16_ n17_ n18_
         have hHeld : w38.cell? ⟨aa, 0, none⟩ = some (.int .u32 aj) ∧ w38.cell? ⟨aa, 1, none⟩ = some (.int .i64 ai) := hS_
         refine norm_ (a' := ?_) ?_ ?_
         rotate_left
         ·simp only [putAll, Act.put, List.setIfInBounds_toArray, List.set_cons_zero, List.set_cons_succ]
          rfl
         refine one_ (i := 11) (N := some 29) #[true, true, true, true, true, true, true, true, true, true, true, true, false, false, false, true, true, false, false] rfl rfl (one_of HT_.out (by kernel_rfl)) (by decide) (fun K hK => ?_)
         refine goes_ Tryd.func43 (by kernel_rfl) rfl #[.agg #[.int .u32 (Go.bits .and .u32 aj t126), .int .i64 (wrap64 (ai - 1))]] (by rfl) rfl rfl (by (try simp only [List.map_toArray, List.map_cons, List.map_nil]); first | done | rfl) ?_
         with_reducible refine (addr_halves.calls (Go.bits .and .u32 aj t126) (wrap64 (ai - 1)) t127 t128 t129 t130 _ ba.out).mono ?_
         rintro e w39 ⟨rfl, hb⟩
         refine ⟨_, rfl, ?_⟩
         replace ab := Aside0.mk (blk_below (g := aa) (by (with_reducible repeat (first | refine blk_drewN ?_ _ | refine blk_drew ?_ | refine blk_alloc ?_ _)); exact ab.out) hb)
         replace af := Aside0.mk (blk_below (g := ad) (by (with_reducible repeat (first | refine blk_drewN ?_ _ | refine blk_drew ?_ | refine blk_alloc ?_ _)); exact af.out) hb)
         replace au := Aside0.mk (blk_below (g := ac) (by (with_reducible repeat (first | refine blk_drewN ?_ _ | refine blk_drew ?_ | refine blk_alloc ?_ _)); exact au.out) hb)
         replace ay := Aside0.mk (blk_below (g := ae) (by (with_reducible repeat (first | refine blk_drewN ?_ _ | refine blk_drew ?_ | refine blk_alloc ?_ _)); exact ay.out) hb)
         replace HB := Aside0.mk (below_step (by repeat (first | (with_reducible first | exact HB.out | apply below_alloc | apply pw_below_drewN | apply below_drew1 | refine below_set ?_ ao.out | refine below_set ?_ ar.out | refine below_set ?_ ax.out | refine below_set ?_ az.out) | exact HB.out)) hb)
         (try clear hb)
         (try clear hb2)
         (try clear hk)
         (try clear hi)
         refine hK.out _ _ (k4592.b2e ab.out) (fun hHeld => ?_)
         clear hK K
         refine norm_ (a' := ?_) ?_ ?_
         rotate_left
         ·show Act.put _ (some 29) _ = _
          simp only [Act.put, List.setIfInBounds_toArray, List.set_cons_zero, List.set_cons_succ, i64_w]
          rfl
         refine pure_ (i := 12) (N := some 17) (v := ?_) (a' := ?_) #[true, true, true, true, true, true, true, true, true, true, true, true, true, false, false, true, true, false, false] rfl rfl (any_of HT_.out (by kernel_rfl)) (fun _ _ _ h => h) (Or.inl ⟨by rfl, ?_⟩) ?_ ?_
         rotate_left
         ·intro w'
          go_simp
          with_reducible rfl
         rotate_left
         ·simp only [Act.put, List.setIfInBounds_toArray, List.set_cons_zero, List.set_cons_succ, i64_w]
          rfl
         refine pure_ (i := 13) (N := some 30) (v := ?_) (a' := ?_) #[true, true, true, true, true, true, true, true, true, true, true, true, true, true, false, true, true, false, false] rfl rfl (any_of HT_.out (by kernel_rfl)) (fun _ _ _ h => h) (Or.inl ⟨by rfl, ?_⟩) ?_ ?_
         rotate_left
         ·intro w'
          go_simp
          with_reducible rfl
         rotate_left
         ·simp only [Act.put, List.setIfInBounds_toArray, List.set_cons_zero, List.set_cons_succ, i64_w]
          rfl
         refine pure_ (i := 14) (N := some 31) (v := ?_) (a' := ?_) #[true, true, true, true, true, true, true, true, true, true, true, true, true, true, true, true, true, false, false] rfl rfl (any_of HT_.out (by kernel_rfl)) (fun _ _ _ h => h) (Or.inl ⟨by rfl, ?_⟩) ?_ ?_
         rotate_left
         ·intro w'
          go_simp
          with_reducible rfl
         rotate_left
         ·simp only [Act.put, List.setIfInBounds_toArray, List.set_cons_zero, List.set_cons_succ, i64_w]
          rfl
         exact norm_ (by first | (simp only [putAll, Act.put, List.setIfInBounds_toArray, List.set_cons_zero, List.set_cons_succ]; done) | (simp only [putAll, Act.put, List.setIfInBounds_toArray, List.set_cons_zero, List.set_cons_succ]; rfl)) (hJ5_11_15_16 (ac, ae) _ ⟨hHeld, (by (with_reducible repeat (first | refine blk_drewN ?_ _ | refine blk_drew ?_ | refine blk_alloc ?_ _)); exact ab.out), (by (with_reducible repeat (first | refine blk_drewN ?_ _ | refine blk_drew ?_ | refine blk_alloc ?_ _)); exact af.out), (by (with_reducible repeat (first | refine blk_drewN ?_ _ | refine blk_drew ?_ | refine blk_alloc ?_ _)); exact au.out), (by (with_reducible repeat (first | refine blk_drewN ?_ _ | refine blk_drew ?_ | refine blk_alloc ?_ _)); exact ay.out), a6.out, ax.out, ag.out, ak.out, al.out, am.out, av.out, aw.out, a7.out, az.out, ah.out, an.out, ap.out, aq.out, (by repeat (first | (with_reducible first | exact HB.out | apply below_alloc | apply pw_below_drewN | apply below_drew1 | refine below_set ?_ ao.out | refine below_set ?_ ar.out | refine below_set ?_ ax.out | refine below_set ?_ az.out) | exact HB.out))⟩)
       ·skip
        rintro ae w38 ⟨hS_, h0_, h1_, h2_, h3_, h4_, h5_, h6_, h7_, h8_, h9_⟩
        have n0_ : Aside0 (w38.heap[aa]? = some (.cells #[.int .u32 aj, .int .i64 ai] 24 (0, 0))) := ⟨h0_⟩
        have n1_ : Aside0 (w38.heap[ad]? = some (.cells #[.int .u32 a5, .int .i64 a4] 24 (0, 0))) := ⟨h1_⟩
        have n2_ : Aside0 (w38.heap[ae]? = some (.cells #[.int .u32 0, .int .i64 0] 24 (0, 0))) := ⟨h2_⟩
        have n3_ : Aside0 (w.heap.size ≤ ae) := ⟨h3_⟩
        have n4_ : Aside0 (w.heap.size ≤ ae) := ⟨h4_⟩
        have n5_ : Aside0 (aa ≠ ae) := ⟨h5_⟩
        have n6_ : Aside0 (ae ≠ aa) := ⟨h6_⟩
        have n7_ : Aside0 (ad ≠ ae) := ⟨h7_⟩
        have n8_ : Aside0 (ae ≠ ad) := ⟨h8_⟩
        have n9_ : Aside0 (Below w.heap.size w w38) := ⟨h9_⟩
        clear ab
        clear af
        clear HB
        clear h0_ h1_ h2_ h3_ h4_ h5_ h6_ h7_ h8_ h9_
        have ab := n0_
        have af := n1_
        have ay := n2_
        have a7 := n3_
        have az := n4_
        have ah := n5_
        have an := n6_
        have ap := n7_
        have aq := n8_
        have HB := n9_
        clear n0_ n1_ n2_ n3_ n4_ n5_ n6_ n7_ n8_ n9_
        have hHeld : w38.cell? ⟨aa, 0, none⟩ = some (.int .u32 aj) ∧ w38.cell? ⟨aa, 1, none⟩ = some (.int .i64 ai) := hS_
        refine norm_ (a' := ?_) ?_ ?_
        rotate_left
        ·simp only [putAll, Act.put, List.setIfInBounds_toArray, List.set_cons_zero, List.set_cons_succ]
         rfl
        refine one_ (i := 15) (N := some 5) #[true, true, true, true, true, true, true, true, true, true, true, true, true, true, true, true, true, false, false] rfl rfl (one_of HT_.out (by kernel_rfl)) (by decide) (fun K hK => ?_)
        refine box_step ?hg (N := 5) ?hd (cs := #[.int .u32 0, .int .i64 0]) (t := 24) ?hr ?_; (case hd => rfl); (case hg => rfl); (case hr => first | (go_simp; done) | (go_simp; rfl))
        intro ac hg w39 hbox hb
        have n0_ := Aside0.mk (blk_below (g := aa) (by (with_reducible repeat (first | refine blk_drewN ?_ _ | refine blk_drew ?_ | refine blk_alloc ?_ _)); exact ab.out) hb)
        have n1_ := Aside0.mk (blk_below (g := ad) (by (with_reducible repeat (first | refine blk_drewN ?_ _ | refine blk_drew ?_ | refine blk_alloc ?_ _)); exact af.out) hb)
        have n2_ := Aside0.mk (blk_below (g := ae) (by (with_reducible repeat (first | refine blk_drewN ?_ _ | refine blk_drew ?_ | refine blk_alloc ?_ _)); exact ay.out) hb)
        have n3_ := Aside0.mk (below_step (by repeat (first | (with_reducible first | exact HB.out | apply below_alloc | apply pw_below_drewN | apply below_drew1 | refine below_set ?_ ao.out | refine below_set ?_ ar.out | refine below_set ?_ az.out) | exact HB.out)) hb)
        have n4_ := Aside0.mk (hbox)
        have n5_ := Aside0.mk ((by rw [hg]; exact (below_size (by repeat (first | (with_reducible first | exact HB.out | apply below_alloc | apply pw_below_drewN | apply below_drew1 | refine below_set ?_ ao.out | refine below_set ?_ ar.out | refine below_set ?_ az.out) | exact HB.out))) : w.heap.size ≤ ac))
        have n6_ := Aside0.mk ((by rw [hg]; exact (below_size (by repeat (first | (with_reducible first | exact HB.out | apply below_alloc | apply pw_below_drewN | apply below_drew1 | refine below_set ?_ ao.out | refine below_set ?_ ar.out | refine below_set ?_ az.out) | exact HB.out))) : w.heap.size ≤ ac))
        have n7_ := Aside0.mk ((by rw [hg]; exact Nat.ne_of_lt (blk_lt (g := aa) (o := .cells #[.int .u32 aj, .int .i64 ai] 24 (0, 0)) (by (with_reducible repeat (first | refine blk_drewN ?_ _ | refine blk_drew ?_ | refine blk_alloc ?_ _)); exact ab.out)) : aa ≠ ac))
        have n8_ := Aside0.mk ((by rw [hg]; exact Nat.ne_of_gt (blk_lt (g := aa) (o := .cells #[.int .u32 aj, .int .i64 ai] 24 (0, 0)) (by (with_reducible repeat (first | refine blk_drewN ?_ _ | refine blk_drew ?_ | refine blk_alloc ?_ _)); exact ab.out)) : ac ≠ aa))
        have n9_ := Aside0.mk ((by rw [hg]; exact Nat.ne_of_lt (blk_lt (g := ad) (o := .cells #[.int .u32 a5, .int .i64 a4] 24 (0, 0)) (by (with_reducible repeat (first | refine blk_drewN ?_ _ | refine blk_drew ?_ | refine blk_alloc ?_ _)); exact af.out)) : ad ≠ ac))
        have n10_ := Aside0.mk ((by rw [hg]; exact Nat.ne_of_gt (blk_lt (g := ad) (o := .cells #[.int .u32 a5, .int .i64 a4] 24 (0, 0)) (by (with_reducible repeat (first | refine blk_drewN ?_ _ | refine blk_drew ?_ | refine blk_alloc ?_ _)); exact af.out)) : ac ≠ ad))
        have n11_ := Aside0.mk ((by rw [hg]; exact Nat.ne_of_lt (blk_lt (g := ae) (o := .cells #[.int .u32 0, .int .i64 0] 24 (0, 0)) (by (with_reducible repeat (first | refine blk_drewN ?_ _ | refine blk_drew ?_ | refine blk_alloc ?_ _)); exact ay.out)) : ae ≠ ac))
        have n12_ := Aside0.mk ((by rw [hg]; exact Nat.ne_of_gt (blk_lt (g := ae) (o := .cells #[.int .u32 0, .int .i64 0] 24 (0, 0)) (by (with_reducible repeat (first | refine blk_drewN ?_ _ | refine blk_drew ?_ | refine blk_alloc ?_ _)); exact ay.out)) : ac ≠ ae))
        clear ab
        clear af
        clear ay
        clear HB
        have ab := n0_
        have af := n1_
        have ay := n2_
        have HB := n3_
        have au := n4_
        have a6 := n5_
        have ax := n6_
        have ag := n7_
        have ak := n8_
        have al := n9_
        have am := n10_
        have av := n11_
        have aw := n12_
        clear n0_ n1_ n2_ n3_ n4_ n5_ n6_ n7_ n8_ n9_ n10_ n11_ n12_
        clear hb hbox hg
        refine hK.out _ _ (k4592.b2e ab.out) (fun hHeld => ?_)
        clear hK K
        refine norm_ (a' := ?_) ?_ ?_
        rotate_left
        ·show Act.put _ (some 5) _ = _
         simp only [Act.put, List.setIfInBounds_toArray, List.set_cons_zero, List.set_cons_succ, i64_w]
         rfl
        exact norm_ (by first | (simp only [putAll, Act.put, List.setIfInBounds_toArray, List.set_cons_zero, List.set_cons_succ]; done) | (simp only [putAll, Act.put, List.setIfInBounds_toArray, List.set_cons_zero, List.set_cons_succ]; rfl)) (hJ5_11_15_16 (ac, ae) _ ⟨hHeld, (by (with_reducible repeat (first | refine blk_drewN ?_ _ | refine blk_drew ?_ | refine blk_alloc ?_ _)); exact ab.out), (by (with_reducible repeat (first | refine blk_drewN ?_ _ | refine blk_drew ?_ | refine blk_alloc ?_ _)); exact af.out), (by (with_reducible repeat (first | refine blk_drewN ?_ _ | refine blk_drew ?_ | refine blk_alloc ?_ _)); exact au.out), (by (with_reducible repeat (first | refine blk_drewN ?_ _ | refine blk_drew ?_ | refine blk_alloc ?_ _)); exact ay.out), a6.out, ax.out, ag.out, ak.out, al.out, am.out, av.out, aw.out, a7.out, az.out, ah.out, an.out, ap.out, aq.out, (by repeat (first | (with_reducible first | exact HB.out | apply below_alloc | apply pw_below_drewN | apply below_drew1 | refine below_set ?_ ao.out | refine below_set ?_ ar.out | refine below_set ?_ az.out | refine below_set ?_ ax.out) | exact HB.out))⟩)
      ·skip
       rintro ac w38 ⟨hS_, h0_, h1_, h2_, h3_, h4_, h5_, h6_, h7_, h8_, h9_⟩
       have n0_ : Aside0 (w38.heap[aa]? = some (.cells #[.int .u32 aj, .int .i64 ai] 24 (0, 0))) := ⟨h0_⟩
       have n1_ : Aside0 (w38.heap[ad]? = some (.cells #[.int .u32 a5, .int .i64 a4] 24 (0, 0))) := ⟨h1_⟩
       have n2_ : Aside0 (w38.heap[ac]? = some (.cells #[.int .u32 0, .int .i64 0] 24 (0, 0))) := ⟨h2_⟩
       have n3_ : Aside0 (w.heap.size ≤ ac) := ⟨h3_⟩
       have n4_ : Aside0 (w.heap.size ≤ ac) := ⟨h4_⟩
       have n5_ : Aside0 (aa ≠ ac) := ⟨h5_⟩
       have n6_ : Aside0 (ac ≠ aa) := ⟨h6_⟩
       have n7_ : Aside0 (ad ≠ ac) := ⟨h7_⟩
       have n8_ : Aside0 (ac ≠ ad) := ⟨h8_⟩
       have n9_ : Aside0 (Below w.heap.size w w38) := ⟨h9_⟩
       clear ab
       clear af
       clear HB
       clear h0_ h1_ h2_ h3_ h4_ h5_ h6_ h7_ h8_ h9_
       have ab := n0_
       have af := n1_
       have au := n2_
       have a6 := n3_
       have ax := n4_
       have ag := n5_
       have ak := n6_
       have al := n7_
       have am := n8_
       have HB := n9_
       clear n0_ n1_ n2_ n3_ n4_ n5_ n6_ n7_ n8_ n9_
       have hHeld : w38.cell? ⟨aa, 0, none⟩ = some (.int .u32 aj) ∧ w38.cell? ⟨aa, 1, none⟩ = some (.int .i64 ai) := hS_
       refine norm_ (a' := ?_) ?_ ?_
       rotate_left
       ·simp only [putAll, Act.put, List.setIfInBounds_toArray, List.set_cons_zero, List.set_cons_succ]
        rfl
       refine one_ (i := 16) (N := some 6) #[true, true, true, true, true, true, true, true, true, true, true, true, true, true, true, true, true, false, false] rfl rfl (one_of HT_.out (by kernel_rfl)) (by decide) (fun K hK => ?_)
       refine box_step ?hg (N := 6) ?hd (cs := #[.int .u32 0, .int .i64 0]) (t := 24) ?hr ?_; (case hd => rfl); (case hg => rfl); (case hr => first | (go_simp; done) | (go_simp; rfl))
       intro ae hg w39 hbox hb
       have n0_ := Aside0.mk (blk_below (g := aa) (by (with_reducible repeat (first | refine blk_drewN ?_ _ | refine blk_drew ?_ | refine blk_alloc ?_ _)); exact ab.out) hb)
       have n1_ := Aside0.mk (blk_below (g := ad) (by (with_reducible repeat (first | refine blk_drewN ?_ _ | refine blk_drew ?_ | refine blk_alloc ?_ _)); exact af.out) hb)
       have n2_ := Aside0.mk (blk_below (g := ac) (by (with_reducible repeat (first | refine blk_drewN ?_ _ | refine blk_drew ?_ | refine blk_alloc ?_ _)); exact au.out) hb)
       have n3_ := Aside0.mk (below_step (by repeat (first | (with_reducible first | exact HB.out | apply below_alloc | apply pw_below_drewN | apply below_drew1 | refine below_set ?_ ao.out | refine below_set ?_ ar.out | refine below_set ?_ ax.out) | exact HB.out)) hb)
       have n4_ := Aside0.mk (hbox)
       have n5_ := Aside0.mk ((by rw [hg]; exact (below_size (by repeat (first | (with_reducible first | exact HB.out | apply below_alloc | apply pw_below_drewN | apply below_drew1 | refine below_set ?_ ao.out | refine below_set ?_ ar.out | refine below_set ?_ ax.out) | exact HB.out))) : w.heap.size ≤ ae))
       have n6_ := Aside0.mk ((by rw [hg]; exact (below_size (by repeat (first | (with_reducible first | exact HB.out | apply below_alloc | apply pw_below_drewN | apply below_drew1 | refine below_set ?_ ao.out | refine below_set ?_ ar.out | refine below_set ?_ ax.out) | exact HB.out))) : w.heap.size ≤ ae))
       have n7_ := Aside0.mk ((by rw [hg]; exact Nat.ne_of_lt (blk_lt (g := aa) (o := .cells #[.int .u32 aj, .int .i64 ai] 24 (0, 0)) (by (with_reducible repeat (first | refine blk_drewN ?_ _ | refine blk_drew ?_ | refine blk_alloc ?_ _)); exact ab.out)) : aa ≠ ae))
       have n8_ := Aside0.mk ((by rw [hg]; exact Nat.ne_of_gt (blk_lt (g := aa) (o := .cells #[.int .u32 aj, .int .i64 ai] 24 (0, 0)) (by (with_reducible repeat (first | refine blk_drewN ?_ _ | refine blk_drew ?_ | refine blk_alloc ?_ _)); exact ab.out)) : ae ≠ aa))
       have n9_ := Aside0.mk ((by rw [hg]; exact Nat.ne_of_lt (blk_lt (g := ad) (o := .cells #[.int .u32 a5, .int .i64 a4] 24 (0, 0)) (by (with_reducible repeat (first | refine blk_drewN ?_ _ | refine blk_drew ?_ | refine blk_alloc ?_ _)); exact af.out)) : ad ≠ ae))
       have n10_ := Aside0.mk ((by rw [hg]; exact Nat.ne_of_gt (blk_lt (g := ad) (o := .cells #[.int .u32 a5, .int .i64 a4] 24 (0, 0)) (by (with_reducible repeat (first | refine blk_drewN ?_ _ | refine blk_drew ?_ | refine blk_alloc ?_ _)); exact af.out)) : ae ≠ ad))
       have n11_ := Aside0.mk ((by rw [hg]; exact Nat.ne_of_lt (blk_lt (g := ac) (o := .cells #[.int .u32 0, .int .i64 0] 24 (0, 0)) (by (with_reducible repeat (first | refine blk_drewN ?_ _ | refine blk_drew ?_ | refine blk_alloc ?_ _)); exact au.out)) : ac ≠ ae))
       have n12_ := Aside0.mk ((by rw [hg]; exact Nat.ne_of_gt (blk_lt (g := ac) (o := .cells #[.int .u32 0, .int .i64 0] 24 (0, 0)) (by (with_reducible repeat (first | refine blk_drewN ?_ _ | refine blk_drew ?_ | refine blk_alloc ?_ _)); exact au.out)) : ae ≠ ac))
       clear ab
       clear af
       clear au
       clear HB
       have ab := n0_
       have af := n1_
       have au := n2_
       have HB := n3_
       have ay := n4_
       have a7 := n5_
       have az := n6_
       have ah := n7_
       have an := n8_
       have ap := n9_
       have aq := n10_
       have aw := n11_
       have av := n12_
       clear n0_ n1_ n2_ n3_ n4_ n5_ n6_ n7_ n8_ n9_ n10_ n11_ n12_
       clear hb hbox hg
       refine hK.out _ _ (k4592.b2e ab.out) (fun hHeld => ?_)
       clear hK K
       refine norm_ (a' := ?_) ?_ ?_
       rotate_left
       ·show Act.put _ (some 6) _ = _
        simp only [Act.put, List.setIfInBounds_toArray, List.set_cons_zero, List.set_cons_succ, i64_w]
        rfl
       exact norm_ (by first | (simp only [putAll, Act.put, List.setIfInBounds_toArray, List.set_cons_zero, List.set_cons_succ]; done) | (simp only [putAll, Act.put, List.setIfInBounds_toArray, List.set_cons_zero, List.set_cons_succ]; rfl)) (hJ5_11_15_16 (ac, ae) _ ⟨hHeld, (by (with_reducible repeat (first | refine blk_drewN ?_ _ | refine blk_drew ?_ | refine blk_alloc ?_ _)); exact ab.out), (by (with_reducible repeat (first | refine blk_drewN ?_ _ | refine blk_drew ?_ | refine blk_alloc ?_ _)); exact af.out), (by (with_reducible repeat (first | refine blk_drewN ?_ _ | refine blk_drew ?_ | refine blk_alloc ?_ _)); exact au.out), (by (with_reducible repeat (first | refine blk_drewN ?_ _ | refine blk_drew ?_ | refine blk_alloc ?_ _)); exact ay.out), a6.out, ax.out, ag.out, ak.out, al.out, am.out, av.out, aw.out, a7.out, az.out, ah.out, an.out, ap.out, aq.out, (by repeat (first | (with_reducible first | exact HB.out | apply below_alloc | apply pw_below_drewN | apply below_drew1 | refine below_set ?_ ao.out | refine below_set ?_ ar.out | refine below_set ?_ ax.out | refine below_set ?_ az.out) | exact HB.out))⟩)
     rintro ⟨ac, ae⟩ w39 ⟨hS_, h0_, h1_, h2_, h3_, h4_, h5_, h6_, h7_, h8_, h9_, h10_, h11_, h12_, h13_, h14_, h15_, h16_, h17_, h18_⟩
     have n0_ : Aside0 (w39.heap[aa]? = some (.cells #[.int .u32 aj, .int .i64 ai] 24 (0, 0))) := ⟨h0_⟩
     have n1_ : Aside0 (w39.heap[ad]? = some (.cells #[.int .u32 a5, .int .i64 a4] 24 (0, 0))) := ⟨h1_⟩
     have n2_ : Aside0 (w39.heap[ac]? = some (.cells #[.int .u32 0, .int .i64 0] 24 (0, 0))) := ⟨h2_⟩
     have n3_ : Aside0 (w39.heap[ae]? = some (.cells #[.int .u32 0, .int .i64 0] 24 (0, 0))) := ⟨h3_⟩
     have n4_ : Aside0 (w.heap.size ≤ ac) := ⟨h4_⟩
     have n5_ : Aside0 (w.heap.size ≤ ac) := ⟨h5_⟩
     have n6_ : Aside0 (aa ≠ ac) := ⟨h6_⟩
     have n7_ : Aside0 (ac ≠ aa) := ⟨h7_⟩
     have n8_ : Aside0 (ad ≠ ac) := ⟨h8_⟩
     have n9_ : Aside0 (ac ≠ ad) := ⟨h9_⟩
     have n10_ : Aside0 (ae ≠ ac) := ⟨h10_⟩
     have n11_ : Aside0 (ac ≠ ae) := ⟨h11_⟩
     have n12_ : Aside0 (w.heap.size ≤ ae) := ⟨h12_⟩
     have n13_ : Aside0 (w.heap.size ≤ ae) := ⟨h13_⟩
     have n14_ : Aside0 (aa ≠ ae) := ⟨h14_⟩
     have n15_ : Aside0 (ae ≠ aa) := ⟨h15_⟩
     have n16_ : Aside0 (ad ≠ ae) := ⟨h16_⟩
     have n17_ : Aside0 (ae ≠ ad) := ⟨h17_⟩
     have n18_ : Aside0 (Below w.heap.size w w39) := ⟨h18_⟩
     clear ab
     clear af
     clear HB
     clear h0_ h1_ h2_ h3_ h4_ h5_ h6_ h7_ h8_ h9_ h10_ h11_ h12_ h13_ h14_ h15_ h16_ h17_ h18_
     have ab := n0_
     have af := n1_
     have au := n2_
     have ay := n3_
     have a6 := n4_
     have ax := n5_
     have ag := n6_
     have ak := n7_
     have al := n8_
     have am := n9_
     have av := n10_
     have aw := n11_
     have a7 := n12_
     have az := n13_
     have ah := n14_
     have an := n15_
     have ap := n16_
     have aq := n17_
     have HB := n18_
     clear n0_ n1_ n2_ n3_ n4_ n5_ n6_ n7_ n8_ n9_ n10_ n11_ n12_ n13_ n14_ n15_ n16_ n17_ n18_
     have hHeld : w39.cell? ⟨aa, 0, none⟩ = some (.int .u32 aj) ∧ w39.cell? ⟨aa, 1, none⟩ = some (.int .i64 ai) := hS_
     refine norm_ (a' := ?_) ?_ ?_
     rotate_left
     ·simp only [putAll, Act.put, List.setIfInBounds_toArray, List.set_cons_zero, List.set_cons_succ]
      rfl
     refine one_ (i := 17) (N := none) #[true, true, true, true, true, true, true, true, true, true, true, true, true, true, true, true, true, true, false] rfl rfl (one_of HT_.out (by kernel_rfl)) (by decide) (fun K hK => ?_)
     have hs40 : w39.cell? ⟨ac, 0, none⟩ = some (.int .u32 0) := (blk_cell au.out 0).trans rfl
     have hfs40 := blk_frozen au.out 0
     have hns40_0 := ag.out
     have hns40_1 := al.out
     have hns40_3 := av.out
     have hms40_0 := ak.out
     have hms40_1 := am.out
     have hms40_3 := aw.out
     have hs41 : w39.cell? ⟨ac, 1, none⟩ = some (.int .i64 0) := (blk_cell au.out 1).trans rfl
     have hfs41 := blk_frozen au.out 1
     have hns41_0 := ag.out
     have hns41_1 := al.out
     have hns41_3 := av.out
     have hms41_0 := ak.out
     have hms41_1 := am.out
     have hms41_3 := aw.out
     refine skip_ (w1 := ?_) (by rfl) rfl ?_ ?_
     rotate_left
     ·go_simp
      rfl
     refine hK.out _ _ ⟨((cell_far (p := ⟨ac, _, none⟩) ag.out _).trans (((cell_far (p := ⟨ac, _, none⟩) ag.out _).trans (hHeld.1)))), ((cell_far (p := ⟨ac, _, none⟩) ag.out _).trans (((cell_far (p := ⟨ac, _, none⟩) ag.out _).trans (hHeld.2))))⟩ (fun hHeld => ?_)
     clear hK K
     refine one_ (i := 18) (N := none) #[true, true, true, true, true, true, true, true, true, true, true, true, true, true, true, true, true, true, true] rfl rfl (one_of HT_.out (by kernel_rfl)) (by decide) (fun K hK => ?_)
     have hs42 : w39.cell? ⟨ae, 0, none⟩ = some (.int .u32 0) := (blk_cell ay.out 0).trans rfl
     have hfs42 := blk_frozen ay.out 0
     have hns42_0 := ah.out
     have hns42_1 := ap.out
     have hns42_2 := aw.out
     have hms42_0 := an.out
     have hms42_1 := aq.out
     have hms42_2 := av.out
     have hs43 : w39.cell? ⟨ae, 1, none⟩ = some (.int .i64 0) := (blk_cell ay.out 1).trans rfl
     have hfs43 := blk_frozen ay.out 1
     have hns43_0 := ah.out
     have hns43_1 := ap.out
     have hns43_2 := aw.out
     have hms43_0 := an.out
     have hms43_1 := aq.out
     have hms43_2 := av.out
     refine skip_ (w1 := ?_) (by rfl) rfl ?_ ?_
     rotate_left
     ·go_simp
      rfl
     refine hK.out _ _ ⟨((cell_far (p := ⟨ae, _, none⟩) ah.out _).trans (((cell_far (p := ⟨ae, _, none⟩) ah.out _).trans (hHeld.1)))), ((cell_far (p := ⟨ae, _, none⟩) ah.out _).trans (((cell_far (p := ⟨ae, _, none⟩) ah.out _).trans (hHeld.2))))⟩ (fun hHeld => ?_)
     clear hK K
     refine done_ (done_of HT_.out (by kernel_rfl)) ?_
     have hnb44 := ak.out
     have hnc44 := ag.out
     have hnb45 := am.out
     have hnc45 := al.out
     have hnb46 := aw.out
     have hnc46 := av.out
     have hcz47_0 : w39.cell? ⟨ac, 0, none⟩ = some (.int .u32 0) := (blk_cell au.out 0).trans rfl
     have hcz47_1 : w39.cell? ⟨ac, 1, none⟩ = some (.int .i64 0) := (blk_cell au.out 1).trans rfl
     have hfz47_0 := blk_frozen au.out 0
     have hfz47_1 := blk_frozen au.out 1
     have hnb48 := NB124_125.out
     have hnc48 := NB125_124.out
     have hnb49 := ah.out
     have hnc49 := an.out
     have hcz50_0 : w39.cell? ⟨aa, 0, none⟩ = some (.int .u32 aj) := (blk_cell ab.out 0).trans rfl
     have hcz50_1 : w39.cell? ⟨aa, 1, none⟩ = some (.int .i64 ai) := (blk_cell ab.out 1).trans rfl
     have hfz50_0 := blk_frozen ab.out 0
     have hfz50_1 := blk_frozen ab.out 1
     try go_wp2
     go_ret
     exact ⟨by first | rfl | (simp [errW_none, errW_some] <;> rfl) | (simp [*, errW_none, errW_some] <;> rfl), by repeat (first | (with_reducible first | exact HB.out | apply below_alloc | apply pw_below_drewN | apply below_drew1 | refine below_set ?_ ao.out | refine below_set ?_ ar.out | refine below_set ?_ ax.out | refine below_set ?_ az.out) | exact HB.out)⟩

end Go.Proofs.YtckffheolnmcnabDoor.P

end

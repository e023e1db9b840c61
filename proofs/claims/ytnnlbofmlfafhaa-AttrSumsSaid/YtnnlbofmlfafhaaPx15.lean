/- Printed by this session's own program (wip/tools/pr.py) out of the translation: functions of the program as plain Lean functions, and that the program's calls come to what these say. -/
import Derived.Test.YtnnlbofmlfafhaaPx0
import Derived.Test.YtnnlbofmlfafhaaPx2
import Derived.Test.YtnnlbofmlfafhaaPx14
namespace Go.Proofs.Ytnnlbofmlfafhaa.P
open Go.RowKit Go.Proofs.YtnnlbofmlfafhaaW.PrintWords Go.Proofs.YtnnlbofmlfafhaaW.PrintLast Go.Proofs.YtnnlbofmlfafhaaW.PrintMore
attribute [local go_sem] max2_int min2_int max_two min_two max_three min_three max_four min_four   -- for this text's walks alone
set_option linter.unusedVariables false
set_option linter.unusedSimpArgs false

/-! ### whirligiglaw09_AttrSums: function 3 -/
def whirligiglaw09_AttrSums.j0 : Nat → Int → Int → Int → Int → Bool → Option (Bool)
  | 0, _, _, _, _, _ => none
  | k + 1, x0, x1, x5, x6, x7 => if x7 = true then (if x5 = (wrap64 (x0 + x1)) then (if x6 = 0 then ((whirligiglaw09_lives.f k).bind fun t192 => (some t192)) else (some false)) else (some false)) else (if x5 = 0 then (if x6 = 7 then ((whirligiglaw09_lives.f k).bind fun t193 => (some t193)) else (some false)) else (some false))
def whirligiglaw09_AttrSums.f (k : Nat) (a0 : Int) (a1 : Int) : Option (Bool) := (attr_Plus.f a0 a1).bind fun bt190 => (if a0 ≥ 0 then (if a1 ≥ 0 then (if a0 ≤ 1099511627776 then (whirligiglaw09_AttrSums.j0 k a0 a1 bt190.1 bt190.2 (decide (a1 ≤ (wrap64 (1099511627776 - a0))))) else (whirligiglaw09_AttrSums.j0 k a0 a1 bt190.1 bt190.2 false)) else (whirligiglaw09_AttrSums.j0 k a0 a1 bt190.1 bt190.2 false)) else (whirligiglaw09_AttrSums.j0 k a0 a1 bt190.1 bt190.2 false))
theorem whirligiglaw09_AttrSums.mono_l : ∀ k, (∀ y0 y1 y2 y3 y4, LeO (whirligiglaw09_AttrSums.j0 k y0 y1 y2 y3 y4) (whirligiglaw09_AttrSums.j0 (k + 1) y0 y1 y2 y3 y4))
  | 0 => fun _ _ _ _ _ r h => by simp [whirligiglaw09_AttrSums.j0] at h
  | k + 1 => by
    have ih0 := whirligiglaw09_AttrSums.mono_l k
    · intro y0 y1 y2 y3 y4
      unfold whirligiglaw09_AttrSums.j0
      repeat' first
      | (with_reducible exact ih0 _ _ _ _ _)
      | (with_reducible exact whirligiglaw09_lives.mono _)
      | (with_reducible exact LeO.refl _)
      | (with_reducible exact LeO.none _)
      | (with_reducible refine LeO.ite ?_ ?_)
      | (with_reducible refine LeO.bind ?_ (fun _ => ?_))
      | exact ih0 _ _ _ _ _
      | exact whirligiglaw09_lives.mono _
      | exact LeO.none _
      | refine LeO.ite ?_ ?_
      | refine LeO.bind ?_ (fun _ => ?_)
theorem whirligiglaw09_AttrSums.mono : ∀ a0 a1 k, LeO (whirligiglaw09_AttrSums.f k a0 a1) (whirligiglaw09_AttrSums.f (k + 1) a0 a1) := by
  intro a0 a1 k
  have ih0 := whirligiglaw09_AttrSums.mono_l k
  unfold whirligiglaw09_AttrSums.f
  repeat' first
      | (with_reducible exact ih0 _ _ _ _ _)
      | (with_reducible exact whirligiglaw09_lives.mono _)
      | (with_reducible exact LeO.refl _)
      | (with_reducible exact LeO.none _)
      | (with_reducible refine LeO.ite ?_ ?_)
      | (with_reducible refine LeO.bind ?_ (fun _ => ?_))
      | exact ih0 _ _ _ _ _
      | exact whirligiglaw09_lives.mono _
      | exact LeO.none _
      | refine LeO.ite ?_ ?_
      | refine LeO.bind ?_ (fun _ => ?_)
set_option maxHeartbeats 8000000 in
set_option maxRecDepth 100000 in
theorem whirligiglaw09_AttrSums.calls (k : Nat) (a0 : Int) (a1 : Int) (r : Bool) (w : World) (h : whirligiglaw09_AttrSums.f k a0 a1 = some r) :
    Calls Try.prog 3 #[.int .i64 a0, .int .i64 a1] w fun e w' => e = .returned (.bool r) ∧ Below w.heap.size w w' := by
  have HB := Aside0.mk (Below.refl w.heap.size w)
  have H : ((attr_Plus.f a0 a1).bind fun bt190 => (if a0 ≥ 0 then (if a1 ≥ 0 then (if a0 ≤ 1099511627776 then (whirligiglaw09_AttrSums.j0 k a0 a1 bt190.1 bt190.2 (decide (a1 ≤ (wrap64 (1099511627776 - a0))))) else (whirligiglaw09_AttrSums.j0 k a0 a1 bt190.1 bt190.2 false)) else (whirligiglaw09_AttrSums.j0 k a0 a1 bt190.1 bt190.2 false)) else (whirligiglaw09_AttrSums.j0 k a0 a1 bt190.1 bt190.2 false))) = some r := h
  clear h
  replace H := Option.bind_eq_some_iff.mp H
  obtain ⟨⟨t190, t191⟩, A30, H⟩ := H
  replace H : (if a0 ≥ 0 then (if a1 ≥ 0 then (if a0 ≤ 1099511627776 then (whirligiglaw09_AttrSums.j0 k a0 a1 t190 t191 (decide (a1 ≤ (wrap64 (1099511627776 - a0))))) else (whirligiglaw09_AttrSums.j0 k a0 a1 t190 t191 false)) else (whirligiglaw09_AttrSums.j0 k a0 a1 t190 t191 false)) else (whirligiglaw09_AttrSums.j0 k a0 a1 t190 t191 false)) = some r := H
  have A3 := Aside0.mk A30
  clear A30
  have HC4 := Aside0.mk H
  clear H
  go_enter Try.func3, Try.ntmps3
  go_upto_region 2 with (first | ((with_reducible refine gate_callee (f := 9) rfl ?_); refine goesL_ (some 11) rfl rfl Try.func9 (by kernel_rfl) rfl #[.int .i64 a0, .int .i64 a1] rfl (by (try simp only [List.map_toArray, List.map_cons, List.map_nil]); first | done | rfl | (simp only [List.length_drop, List.length_take]; rfl)) ?_; (with_reducible refine (attr_Plus.calls a0 a1 t190 t191 _ A3.out).mono ?_); rintro e w' ⟨rfl, ⟨nd, rfl⟩⟩; refine ⟨_, rfl, ?_⟩))
  (try simp only [Act.put, List.setIfInBounds_toArray, List.set_cons_zero, List.set_cons_succ])
  go_cut [7] (fun v7 wc => ∃ (kq : Nat) (x7_3 : Bool), v7 = .bool x7_3 ∧ Aside0 (whirligiglaw09_AttrSums.j0 kq a0 a1 t190 t191 x7_3 = some r) ∧ Aside0 (kq ≤ k) ∧ Aside0 (Below w.heap.size w wc))
  case first =>
    have H := HC4.out
    clear HC4
    by_cases c5 : a0 ≥ 0
    · rw [if_pos c5] at H
      have c5b0 : decide (0 ≤ a0) = true := decide_eq_true c5
      clear c5
      (first | rw [c5b0] | (simp only [i64_w, i32_w]; rw [c5b0]) | skip)
      by_cases c6 : a1 ≥ 0
      · rw [if_pos c6] at H
        have c6b0 : decide (0 ≤ a1) = true := decide_eq_true c6
        clear c6
        by_cases c7 : a0 ≤ 1099511627776
        · rw [if_pos c7] at H
          have c7b0 : decide (a0 ≤ 1099511627776) = true := decide_eq_true c7
          clear c7
          have H' := Aside0.mk H
          clear H
          go_wp2
          go_meet
          case rel => exact ⟨_, (decide (a1 ≤ (wrap64 (1099511627776 - a0)))), (by first | rfl | (simp; done) | (simp [*]; done)), H', ⟨by first | omega | exact Nat.le_refl _⟩, ⟨by repeat (first | (with_reducible first | exact HB.out | apply below_alloc | apply pw_below_drewN | apply below_drew1) | exact HB.out)⟩⟩
        · rw [if_neg c7] at H
          have c7b0 : decide (a0 ≤ 1099511627776) = false := decide_eq_false c7
          clear c7
          have H' := Aside0.mk H
          clear H
          go_wp2
          go_meet
          case rel => exact ⟨_, (false), (by first | rfl | (simp; done) | (simp [*]; done)), H', ⟨by first | omega | exact Nat.le_refl _⟩, ⟨by repeat (first | (with_reducible first | exact HB.out | apply below_alloc | apply pw_below_drewN | apply below_drew1) | exact HB.out)⟩⟩
      · rw [if_neg c6] at H
        have c6b0 : decide (0 ≤ a1) = false := decide_eq_false c6
        clear c6
        have H' := Aside0.mk H
        clear H
        go_wp2
        go_meet
        case rel => exact ⟨_, (false), (by first | rfl | (simp; done) | (simp [*]; done)), H', ⟨by first | omega | exact Nat.le_refl _⟩, ⟨by repeat (first | (with_reducible first | exact HB.out | apply below_alloc | apply pw_below_drewN | apply below_drew1) | exact HB.out)⟩⟩
    · rw [if_neg c5] at H
      have c5b0 : decide (0 ≤ a0) = false := decide_eq_false c5
      clear c5
      (first | rw [c5b0] | (simp only [i64_w, i32_w]; rw [c5b0]) | skip)
      have H' := Aside0.mk H
      clear H
      go_wp2
      go_meet
      case rel => exact ⟨_, (false), (by first | rfl | (simp; done) | (simp [*]; done)), H', ⟨by first | omega | exact Nat.le_refl _⟩, ⟨by repeat (first | (with_reducible first | exact HB.out | apply below_alloc | apply pw_below_drewN | apply below_drew1) | exact HB.out)⟩⟩
  case rest =>
    clear HC4
    try clear p2
    try clear c3
    try clear c5
    try clear c5b0
    try clear c6
    try clear c6b0
    try clear p6
    try clear c7
    try clear c7b0
    obtain ⟨kq, x7_3, rfl, HA, HJ3, HB⟩ := hcut
    cases kq with
    | zero => exact absurd HA.out (by simp [whirligiglaw09_AttrSums.j0])
    | succ kj3 =>
      have H := HA.out
      clear HA
      simp only [whirligiglaw09_AttrSums.j0] at H
      by_cases c8 : x7_3 = true
      · subst c8
        have H1 : (if t190 = (wrap64 (a0 + a1)) then (if t191 = 0 then ((whirligiglaw09_lives.f kj3).bind fun t192 => (some t192)) else (some false)) else (some false)) = some r := by rw [if_pos rfl] at H; exact H
        clear H
        have H := H1
        clear H1
        by_cases c9 : t190 = (wrap64 (a0 + a1))
        · rw [if_pos c9] at H
          have c9b0 : (t190 == (wrap64 (a0 + a1))) = true := beq_iff_eq.mpr c9
          have c9b1 : (t190 != (wrap64 (a0 + a1))) = false := bne_eq_false_iff_eq.mpr c9
          clear c9
          by_cases c10 : t191 = 0
          · rw [if_pos c10] at H
            have c10b0 : (t191 == 0) = true := beq_iff_eq.mpr c10
            have c10b1 : (t191 != 0) = false := bne_eq_false_iff_eq.mpr c10
            clear c10
            replace H := Option.bind_eq_some_iff.mp H
            obtain ⟨t192, A110, H⟩ := H
            replace H : (some t192) = some r := H
            have A11 := Aside0.mk A110
            clear A110
            obtain rfl := Option.some.inj H
            go_wp2_with (first | (go_at_call 10; (with_reducible refine (whirligiglaw09_lives.calls kj3  t192 _ A11.out).mono ?_); rintro e w12 ⟨rfl, hb⟩; have n0_ := Aside0.mk (below_step (by repeat (first | (with_reducible first | exact HB.out | apply below_alloc | apply pw_below_drewN | apply below_drew1) | exact HB.out)) hb); clear HB; have HB := n0_; clear n0_; (try clear hb); (try clear hb2); (try clear hk); (try clear hi)))
            go_ret
            exact ⟨by first | rfl | (simp [errW_none, errW_some] <;> rfl) | (simp [*, errW_none, errW_some] <;> rfl), by repeat (first | (with_reducible first | exact HB.out | apply below_alloc | apply pw_below_drewN | apply below_drew1) | exact HB.out)⟩
          · rw [if_neg c10] at H
            have c10b0 : (t191 == 0) = false := beq_eq_false_iff_ne.mpr c10
            have c10b1 : (t191 != 0) = true := bne_iff_ne.mpr c10
            obtain rfl := Option.some.inj H
            go_wp2
            go_ret
            exact ⟨by first | rfl | (simp [errW_none, errW_some] <;> rfl) | (simp [*, errW_none, errW_some] <;> rfl), by repeat (first | (with_reducible first | exact HB.out | apply below_alloc | apply pw_below_drewN | apply below_drew1) | exact HB.out)⟩
        · rw [if_neg c9] at H
          have c9b0 : (t190 == (wrap64 (a0 + a1))) = false := beq_eq_false_iff_ne.mpr c9
          have c9b1 : (t190 != (wrap64 (a0 + a1))) = true := bne_iff_ne.mpr c9
          obtain rfl := Option.some.inj H
          go_wp2
          go_ret
          exact ⟨by first | rfl | (simp [errW_none, errW_some] <;> rfl) | (simp [*, errW_none, errW_some] <;> rfl), by repeat (first | (with_reducible first | exact HB.out | apply below_alloc | apply pw_below_drewN | apply below_drew1) | exact HB.out)⟩
      · replace c8 := Bool.eq_false_iff.mpr c8
        subst c8
        have H1 : (if t190 = 0 then (if t191 = 7 then ((whirligiglaw09_lives.f kj3).bind fun t193 => (some t193)) else (some false)) else (some false)) = some r := by rw [if_neg (show ¬ (false = true) by decide)] at H; exact H
        clear H
        have H := H1
        clear H1
        by_cases c13 : t190 = 0
        · rw [if_pos c13] at H
          have c13b0 : (t190 == 0) = true := beq_iff_eq.mpr c13
          have c13b1 : (t190 != 0) = false := bne_eq_false_iff_eq.mpr c13
          clear c13
          by_cases c14 : t191 = 7
          · rw [if_pos c14] at H
            have c14b0 : (t191 == 7) = true := beq_iff_eq.mpr c14
            have c14b1 : (t191 != 7) = false := bne_eq_false_iff_eq.mpr c14
            clear c14
            replace H := Option.bind_eq_some_iff.mp H
            obtain ⟨t193, A150, H⟩ := H
            replace H : (some t193) = some r := H
            have A15 := Aside0.mk A150
            clear A150
            obtain rfl := Option.some.inj H
            go_wp2_with (first | (go_at_call 10; (with_reducible refine (whirligiglaw09_lives.calls kj3  t193 _ A15.out).mono ?_); rintro e w16 ⟨rfl, hb⟩; have n0_ := Aside0.mk (below_step (by repeat (first | (with_reducible first | exact HB.out | apply below_alloc | apply pw_below_drewN | apply below_drew1) | exact HB.out)) hb); clear HB; have HB := n0_; clear n0_; (try clear hb); (try clear hb2); (try clear hk); (try clear hi)))
            go_ret
            exact ⟨by first | rfl | (simp [errW_none, errW_some] <;> rfl) | (simp [*, errW_none, errW_some] <;> rfl), by repeat (first | (with_reducible first | exact HB.out | apply below_alloc | apply pw_below_drewN | apply below_drew1) | exact HB.out)⟩
          · rw [if_neg c14] at H
            have c14b0 : (t191 == 7) = false := beq_eq_false_iff_ne.mpr c14
            have c14b1 : (t191 != 7) = true := bne_iff_ne.mpr c14
            obtain rfl := Option.some.inj H
            go_wp2
            go_ret
            exact ⟨by first | rfl | (simp [errW_none, errW_some] <;> rfl) | (simp [*, errW_none, errW_some] <;> rfl), by repeat (first | (with_reducible first | exact HB.out | apply below_alloc | apply pw_below_drewN | apply below_drew1) | exact HB.out)⟩
        · rw [if_neg c13] at H
          have c13b0 : (t190 == 0) = false := beq_eq_false_iff_ne.mpr c13
          have c13b1 : (t190 != 0) = true := bne_iff_ne.mpr c13
          obtain rfl := Option.some.inj H
          go_wp2
          go_ret
          exact ⟨by first | rfl | (simp [errW_none, errW_some] <;> rfl) | (simp [*, errW_none, errW_some] <;> rfl), by repeat (first | (with_reducible first | exact HB.out | apply below_alloc | apply pw_below_drewN | apply below_drew1) | exact HB.out)⟩

/-- THE ONE PURE STATEMENT of whirligiglaw09_AttrSums: yours. -/
def whirligiglaw09_AttrSums.Pure : Prop := ∀ (a0 : Int) (a1 : Int), (Lit.int .i64 a0).wf = true → (Lit.int .i64 a1).wf = true → ∃ k, whirligiglaw09_AttrSums.f k a0 a1 = some true
theorem whirligiglaw09_AttrSums.walk (P : whirligiglaw09_AttrSums.Pure) (a0 : Int) (a1 : Int) (w : World) (w0 : (Lit.int .i64 a0).wf = true) (w1 : (Lit.int .i64 a1).wf = true) :
    Calls Try.prog 3 #[.int .i64 a0, .int .i64 a1] w fun e w' => e = .returned (.bool true) ∧ Below w.heap.size w w' := by
  obtain ⟨k, h⟩ := P a0 a1 w0 w1
  refine (whirligiglaw09_AttrSums.calls k a0 a1 true w h).mono ?_
  rintro e w' ⟨rfl, hd⟩
  exact ⟨rfl, hd⟩

end Go.Proofs.Ytnnlbofmlfafhaa.P

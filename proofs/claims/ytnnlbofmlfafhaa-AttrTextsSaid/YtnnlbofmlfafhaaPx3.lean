/- Printed by this session's own program (wip/tools/pr.py) out of the translation: functions of the program as plain Lean functions, and that the program's calls come to what these say. -/
import Derived.Test.YtnnlbofmlfafhaaPx0
import Derived.Test.YtnnlbofmlfafhaaPx1
import Derived.Test.YtnnlbofmlfafhaaPx2
namespace Go.Proofs.Ytnnlbofmlfafhaa.P
open Go.RowKit Go.Proofs.YtnnlbofmlfafhaaW.PrintWords Go.Proofs.YtnnlbofmlfafhaaW.PrintLast Go.Proofs.YtnnlbofmlfafhaaW.PrintMore
attribute [local go_sem] max2_int min2_int max_two min_two max_three min_three max_four min_four   -- for this text's walks alone
set_option linter.unusedVariables false
set_option linter.unusedSimpArgs false

attribute [local go_sem high] eqA63
/-! ### comm_Text: function 66 -/
def comm_Text.f (a0_0 : Int) (a0_1 : Int) : Option (ByteArray) := (comm_May.f a0_0 a0_1).bind fun t141 => (if t141 = true then ((comm_NoExport.f).bind fun bt142 => (if (a0_0 == bt142.1 && (a0_1 == bt142.2)) = true then (some (⟨#[110, 111, 45, 101, 120, 112, 111, 114, 116]⟩ : ByteArray)) else ((comm_NoAdvertise.f).bind fun bt144 => (if (a0_0 == bt144.1 && (a0_1 == bt144.2)) = true then (some (⟨#[110, 111, 45, 97, 100, 118, 101, 114, 116, 105, 115, 101]⟩ : ByteArray)) else ((comm_Local.f).bind fun bt146 => (if (a0_0 == bt146.1 && (a0_1 == bt146.2)) = true then (some (⟨#[108, 111, 99, 97, 108]⟩ : ByteArray)) else ((comm_digits.f a0_0).bind fun t148 => (if t148.size + 1 ≤ 9223372036854775807 then ((comm_digits.f a0_1).bind fun t149 => (if (t148 ++ (⟨#[58]⟩ : ByteArray)).size + t149.size ≤ 9223372036854775807 then (some ((t148 ++ (⟨#[58]⟩ : ByteArray)) ++ t149)) else (none))) else (none))))))))) else (some (⟨#[]⟩ : ByteArray)))
def comm_Text.T9 : Bool × List (List Nat × List Nat) := (true, [([], []), ([0], [0]), ([1], [1]), ([2], [2]), ([], []), ([4], [4]), ([5, 2], [5]), ([3, 6], [3, 6]), ([7, 6, 0, 1, 2, 3, 4, 5, 6, 7], [7])])
def comm_Text.B9 : List Nat := [0, 1, 3, 7, 0, 16, 55, 127, 255]
theorem comm_Text.tab9 : rtab .any (opsOf Try.f66 9) = comm_Text.T9 := by kernel_rfl
theorem comm_Text.bits9 : waitsOk comm_Text.T9.2 comm_Text.B9 = true := by kernel_rfl
theorem ka407.b2e {W : World} {g : Nat} {v0 v1 : Value} {t : TypeId} (h : W.heap[g]? = some (.cells #[v0, v1] t (0, 0))) : W.cell? ⟨g, 0, none⟩ = some v0 ∧ W.cell? ⟨g, 1, none⟩ = some v1 :=
  ⟨(blk_cell h 0).trans rfl, (blk_cell h 1).trans rfl⟩
@[reducible] def ka407.S0 (g0 : Nat) (v0 v1 : Value) (w' : World) : Prop := w'.cell? ⟨g0, 0, none⟩ = some v0 ∧ w'.cell? ⟨g0, 1, none⟩ = some v1
set_option maxHeartbeats 8000000 in
set_option maxRecDepth 100000 in
theorem comm_Text.calls (ac : Int) (ad : Int) (r : ByteArray) (w : World) (h : comm_Text.f ac ad = some r) :
  Calls Try.prog 66 #[.agg #[.int .i64 ac, .int .i64 ad]] w fun e w' => e = .returned (.string r) ∧ Below w.heap.size w w' := by
 have hu63 := Try.underlying63
 have HB := Aside0.mk (Below.refl w.heap.size w)
 have H := h
 unfold comm_Text.f at H
 clear h
 replace H := Option.bind_eq_some_iff.mp H
 obtain ⟨t141, A20, H⟩ := H
 (try dsimp only at H)
 have A2 := Aside0.mk A20
 clear A20
 by_cases c3 : t141 = true
 ·subst c3
  have H1 := H
  rw [if_pos rfl] at H1
  clear H
  have H := H1
  clear H1
  replace H := Option.bind_eq_some_iff.mp H
  obtain ⟨⟨t142, t143⟩, A40, H⟩ := H
  (try dsimp only at H)
  have A4 := Aside0.mk A40
  clear A40
  by_cases c5 : (ac == t142 && (ad == t143)) = true
  ·rw [if_pos c5] at H
   have c5b0 : (ac == t142 && (ad == t143)) = true := c5
   (try (have c5b1 : decide (ac = t142 && (ad == t143)) = true := by simpa using c5))
   (try (have c5b2 : (ac == t142 && (ad == t143)) = true := by simpa using c5))
   clear c5
   obtain rfl := Option.some.inj H
   go_enter Try.func66, Try.ntmps66
   try go_wp2_with (first | ((with_reducible refine gate_dst (N := 1) rfl ?_); refine box_event ?hg (N := 1) ?hd (cs := #[.int .i64 ac, .int .i64 ad]) (t := 63) ?hr ?_; (case hd => rfl); (case hg => rfl); (case hr => first | (go_simp; done) | (go_simp; rfl)); intro ab hg w6 hbox hb; have n0_ := Aside0.mk (below_step (by repeat (first | (with_reducible first | exact HB.out | apply below_alloc | apply pw_below_drewN | apply below_drew1) | exact HB.out)) hb); have n1_ := Aside0.mk (hbox); have n2_ := Aside0.mk ((by rw [hg]; exact (below_size (by repeat (first | (with_reducible first | exact HB.out | apply below_alloc | apply pw_below_drewN | apply below_drew1) | exact HB.out))) : w.heap.size ≤ ab)); have n3_ := Aside0.mk ((by rw [hg]; exact (below_size (by repeat (first | (with_reducible first | exact HB.out | apply below_alloc | apply pw_below_drewN | apply below_drew1) | exact HB.out))) : w.heap.size ≤ ab)); clear HB; have HB := n0_; have aa := n1_; have GW140 := n2_; have ae := n3_; clear n0_ n1_ n2_ n3_; clear hb hbox hg; have hcz7_0 : w6.cell? ⟨ab, 0, none⟩ = some (.int .i64 ac) := (blk_cell aa.out 0).trans rfl; have hcz7_1 : w6.cell? ⟨ab, 1, none⟩ = some (.int .i64 ad) := (blk_cell aa.out 1).trans rfl; have hfz7_0 := blk_frozen aa.out 0; have hfz7_1 := blk_frozen aa.out 1) | ((with_reducible refine gate_callee (f := 56) rfl ?_); refine goesL_ (some 5) rfl rfl Try.func56 (by kernel_rfl) rfl #[.agg #[.int .i64 ac, .int .i64 ad]] rfl (by (try simp only [List.map_toArray, List.map_cons, List.map_nil]); first | done | rfl) ?_; (with_reducible refine (comm_May.calls ac ad true _ A2.out).mono ?_); rintro e w8 ⟨rfl, hb⟩; refine ⟨_, rfl, ?_⟩; replace aa := Aside0.mk (blk_below (g := ab) (by (with_reducible repeat (first | refine blk_drewN ?_ _ | refine blk_drew ?_ | refine blk_alloc ?_ _)); exact aa.out) hb); replace HB := Aside0.mk (below_step (by repeat (first | (with_reducible first | exact HB.out | apply below_alloc | apply pw_below_drewN | apply below_drew1 | refine below_set ?_ ae.out) | exact HB.out)) hb); (try clear hb); (try clear af); (try clear hk); (try clear hi)))
   have n0_ := Aside0.mk (blk_drew aa.out)
   have n1_ := Aside0.mk (below_drew1 HB.out)
   clear aa
   clear HB
   have aa := n0_
   have HB := n1_
   clear n0_ n1_
   refine start_ (n := 4) (S := ka407.S0 ab (.int .i64 ac) (.int .i64 ad)) (ds := []) #[false, false, false, false] (by kernel_rfl) rfl rfl (ka407.b2e aa.out) (fun hHeld => ?_)
   generalize w8.drew = w9 at aa HB hHeld ⊢
   refine take_ (i := 0) (N := some 8) (v := ?_) (a' := ?_) #[true, false, false, false] rfl rfl (by kernel_rfl) (fun _ _ _ h => h) (Or.inl ⟨by rfl, ?_⟩) hHeld ?_ ?_
   rotate_left
   ·rintro w' ⟨s0, s1⟩
    go_simp
    with_reducible rfl
   rotate_left
   ·simp only [Act.put, List.setIfInBounds_toArray, List.set_cons_zero, List.set_cons_succ, i64_w, i32_w]
    rfl
   refine one_ (i := 1) (N := some 9) #[true, true, false, false] rfl rfl (by kernel_rfl) (by decide) (fun K hK => ?_)
   refine goes_ Try.func87 (by kernel_rfl) rfl #[] (by rfl) rfl rfl (by (try simp only [List.map_toArray, List.map_cons, List.map_nil]); first | done | rfl) ?_
   with_reducible refine (comm_NoExport.calls  t142 t143 _ A4.out).mono ?_
   rintro e w10 ⟨rfl, hb⟩
   refine ⟨_, rfl, ?_⟩
   replace aa := Aside0.mk (blk_below (g := ab) (by (with_reducible repeat (first | refine blk_drewN ?_ _ | refine blk_drew ?_ | refine blk_alloc ?_ _)); exact aa.out) hb)
   replace HB := Aside0.mk (below_step (by repeat (first | (with_reducible first | exact HB.out | apply below_alloc | apply pw_below_drewN | apply below_drew1 | refine below_set ?_ ae.out) | exact HB.out)) hb)
   (try clear hb)
   (try clear af)
   (try clear hk)
   (try clear hi)
   refine hK.out _ _ (ka407.b2e aa.out) (fun hHeld => ?_)
   clear hK K
   refine norm_ (a' := ?_) ?_ ?_
   rotate_left
   ·show Act.put _ (some 9) _ = _
    simp only [Act.put, List.setIfInBounds_toArray, List.set_cons_zero, List.set_cons_succ, i64_w, i32_w]
    rfl
   refine pure_ (i := 2) (N := some 10) (v := ?_) (a' := ?_) #[true, true, true, false] rfl rfl (by kernel_rfl) (fun _ _ _ h => h) (Or.inl ⟨by rfl, ?_⟩) ?_ ?_
   rotate_left
   ·intro w'
    go_simp
    with_reducible rfl
   rotate_left
   ·simp only [Act.put, List.setIfInBounds_toArray, List.set_cons_zero, List.set_cons_succ, i64_w, i32_w]
    rfl
   refine pure_ (i := 3) (N := some 7) (v := ?_) (a' := ?_) #[true, true, true, true] rfl rfl (by kernel_rfl) (fun _ _ _ h => h) (Or.inl ⟨by rfl, ?_⟩) ?_ ?_
   rotate_left
   ·intro w'
    go_simp
    with_reducible rfl
   rotate_left
   ·simp only [Act.put, List.setIfInBounds_toArray, List.set_cons_zero, List.set_cons_succ, i64_w, i32_w]
    rfl
   refine done_ (by kernel_rfl) ?_
   try go_wp2
   go_ret
   exact ⟨by first | rfl | (simp [errW_none, errW_some] <;> rfl) | (simp [*, errW_none, errW_some] <;> rfl), by repeat (first | (with_reducible first | exact HB.out | apply below_alloc | apply pw_below_drewN | apply below_drew1 | refine below_set ?_ ae.out) | exact HB.out)⟩
  ·rw [if_neg c5] at H
   have c5b0 : (ac == t142 && (ad == t143)) = false := by simpa using c5
   (try (have c5b1 : decide (ac = t142 && (ad == t143)) = false := by simpa using c5))
   (try (have c5b2 : (ac == t142 && (ad == t143)) = false := by simpa using c5))
   (try (have c5b3 : ¬ (ac = t142 && (ad == t143)) := by simpa using c5))
   clear c5
   replace H := Option.bind_eq_some_iff.mp H
   obtain ⟨⟨t144, t145⟩, A110, H⟩ := H
   (try dsimp only at H)
   have A11 := Aside0.mk A110
   clear A110
   by_cases ag : (ac == t144 && (ad == t145)) = true
   ·rw [if_pos ag] at H
    have c12b0 : (ac == t144 && (ad == t145)) = true := ag
    (try (have c12b1 : decide (ac = t144 && (ad == t145)) = true := by simpa using ag))
    (try (have c12b2 : (ac == t144 && (ad == t145)) = true := by simpa using ag))
    clear ag
    obtain rfl := Option.some.inj H
    go_enter Try.func66, Try.ntmps66
    try go_wp2_with (first | ((with_reducible refine gate_dst (N := 1) rfl ?_); refine box_event ?hg (N := 1) ?hd (cs := #[.int .i64 ac, .int .i64 ad]) (t := 63) ?hr ?_; (case hd => rfl); (case hg => rfl); (case hr => first | (go_simp; done) | (go_simp; rfl)); intro ab hg w13 hbox hb; have n0_ := Aside0.mk (below_step (by repeat (first | (with_reducible first | exact HB.out | apply below_alloc | apply pw_below_drewN | apply below_drew1) | exact HB.out)) hb); have n1_ := Aside0.mk (hbox); have n2_ := Aside0.mk ((by rw [hg]; exact (below_size (by repeat (first | (with_reducible first | exact HB.out | apply below_alloc | apply pw_below_drewN | apply below_drew1) | exact HB.out))) : w.heap.size ≤ ab)); have n3_ := Aside0.mk ((by rw [hg]; exact (below_size (by repeat (first | (with_reducible first | exact HB.out | apply below_alloc | apply pw_below_drewN | apply below_drew1) | exact HB.out))) : w.heap.size ≤ ab)); clear HB; have HB := n0_; have aa := n1_; have GW140 := n2_; have ae := n3_; clear n0_ n1_ n2_ n3_; clear hb hbox hg; have hcz14_0 : w13.cell? ⟨ab, 0, none⟩ = some (.int .i64 ac) := (blk_cell aa.out 0).trans rfl; have hcz14_1 : w13.cell? ⟨ab, 1, none⟩ = some (.int .i64 ad) := (blk_cell aa.out 1).trans rfl; have hfz14_0 := blk_frozen aa.out 0; have hfz14_1 := blk_frozen aa.out 1) | ((with_reducible refine gate_callee (f := 56) rfl ?_); refine goesL_ (some 5) rfl rfl Try.func56 (by kernel_rfl) rfl #[.agg #[.int .i64 ac, .int .i64 ad]] rfl (by (try simp only [List.map_toArray, List.map_cons, List.map_nil]); first | done | rfl) ?_; (with_reducible refine (comm_May.calls ac ad true _ A2.out).mono ?_); rintro e w15 ⟨rfl, hb⟩; refine ⟨_, rfl, ?_⟩; replace aa := Aside0.mk (blk_below (g := ab) (by (with_reducible repeat (first | refine blk_drewN ?_ _ | refine blk_drew ?_ | refine blk_alloc ?_ _)); exact aa.out) hb); replace HB := Aside0.mk (below_step (by repeat (first | (with_reducible first | exact HB.out | apply below_alloc | apply pw_below_drewN | apply below_drew1 | refine below_set ?_ ae.out) | exact HB.out)) hb); (try clear hb); (try clear af); (try clear hk); (try clear hi)))
    have n0_ := Aside0.mk (blk_drew aa.out)
    have n1_ := Aside0.mk (below_drew1 HB.out)
    clear aa
    clear HB
    have aa := n0_
    have HB := n1_
    clear n0_ n1_
    refine start_ (n := 4) (S := ka407.S0 ab (.int .i64 ac) (.int .i64 ad)) (ds := []) #[false, false, false, false] (by kernel_rfl) rfl rfl (ka407.b2e aa.out) (fun hHeld => ?_)
    generalize w15.drew = w16 at aa HB hHeld ⊢
    refine take_ (i := 0) (N := some 8) (v := ?_) (a' := ?_) #[true, false, false, false] rfl rfl (by kernel_rfl) (fun _ _ _ h => h) (Or.inl ⟨by rfl, ?_⟩) hHeld ?_ ?_
    rotate_left
    ·rintro w' ⟨s0, s1⟩
     go_simp
     with_reducible rfl
    rotate_left
    ·simp only [Act.put, List.setIfInBounds_toArray, List.set_cons_zero, List.set_cons_succ, i64_w, i32_w]
     rfl
    refine one_ (i := 1) (N := some 9) #[true, true, false, false] rfl rfl (by kernel_rfl) (by decide) (fun K hK => ?_)
    refine goes_ Try.func87 (by kernel_rfl) rfl #[] (by rfl) rfl rfl (by (try simp only [List.map_toArray, List.map_cons, List.map_nil]); first | done | rfl) ?_
    with_reducible refine (comm_NoExport.calls  t142 t143 _ A4.out).mono ?_
    rintro e w17 ⟨rfl, hb⟩
    refine ⟨_, rfl, ?_⟩
    replace aa := Aside0.mk (blk_below (g := ab) (by (with_reducible repeat (first | refine blk_drewN ?_ _ | refine blk_drew ?_ | refine blk_alloc ?_ _)); exact aa.out) hb)
    replace HB := Aside0.mk (below_step (by repeat (first | (with_reducible first | exact HB.out | apply below_alloc | apply pw_below_drewN | apply below_drew1 | refine below_set ?_ ae.out) | exact HB.out)) hb)
    (try clear hb)
    (try clear af)
    (try clear hk)
    (try clear hi)
    refine hK.out _ _ (ka407.b2e aa.out) (fun hHeld => ?_)
    clear hK K
    refine norm_ (a' := ?_) ?_ ?_
    rotate_left
    ·show Act.put _ (some 9) _ = _
     simp only [Act.put, List.setIfInBounds_toArray, List.set_cons_zero, List.set_cons_succ, i64_w, i32_w]
     rfl
    refine pure_ (i := 2) (N := some 10) (v := ?_) (a' := ?_) #[true, true, true, false] rfl rfl (by kernel_rfl) (fun _ _ _ h => h) (Or.inl ⟨by rfl, ?_⟩) ?_ ?_
    rotate_left
    ·intro w'
     go_simp
     with_reducible rfl
    rotate_left
    ·simp only [Act.put, List.setIfInBounds_toArray, List.set_cons_zero, List.set_cons_succ, i64_w, i32_w]
     rfl
    refine pure_ (i := 3) (N := some 7) (v := ?_) (a' := ?_) #[true, true, true, true] rfl rfl (by kernel_rfl) (fun _ _ _ h => h) (Or.inl ⟨by rfl, ?_⟩) ?_ ?_
    rotate_left
    ·intro w'
     go_simp
     with_reducible rfl
    rotate_left
    ·simp only [Act.put, List.setIfInBounds_toArray, List.set_cons_zero, List.set_cons_succ, i64_w, i32_w]
     rfl
    refine done_ (by kernel_rfl) ?_
    try go_wp2
    replace aa := Aside0.mk (blk_drew aa.out)
    replace HB := Aside0.mk (below_drew1 HB.out)
    refine start_ (n := 4) (S := ka407.S0 ab (.int .i64 ac) (.int .i64 ad)) (ds := []) #[false, false, false, false] (by kernel_rfl) rfl rfl (ka407.b2e aa.out) (fun hHeld => ?_)
    generalize w17.drew = w18 at aa HB hHeld ⊢
    refine take_ (i := 0) (N := some 12) (v := ?_) (a' := ?_) #[true, false, false, false] rfl rfl (by kernel_rfl) (fun _ _ _ h => h) (Or.inl ⟨by rfl, ?_⟩) hHeld ?_ ?_
    rotate_left
    ·rintro w' ⟨s0, s1⟩
     go_simp
     with_reducible rfl
    rotate_left
    ·simp only [Act.put, List.setIfInBounds_toArray, List.set_cons_zero, List.set_cons_succ, i64_w, i32_w]
     rfl
    refine one_ (i := 1) (N := some 13) #[true, true, false, false] rfl rfl (by kernel_rfl) (by decide) (fun K hK => ?_)
    refine goes_ Try.func88 (by kernel_rfl) rfl #[] (by rfl) rfl rfl (by (try simp only [List.map_toArray, List.map_cons, List.map_nil]); first | done | rfl) ?_
    with_reducible refine (comm_NoAdvertise.calls  t144 t145 _ A11.out).mono ?_
    rintro e w19 ⟨rfl, hb⟩
    refine ⟨_, rfl, ?_⟩
    replace aa := Aside0.mk (blk_below (g := ab) (by (with_reducible repeat (first | refine blk_drewN ?_ _ | refine blk_drew ?_ | refine blk_alloc ?_ _)); exact aa.out) hb)
    replace HB := Aside0.mk (below_step (by repeat (first | (with_reducible first | exact HB.out | apply below_alloc | apply pw_below_drewN | apply below_drew1 | refine below_set ?_ ae.out) | exact HB.out)) hb)
    (try clear hb)
    (try clear af)
    (try clear hk)
    (try clear hi)
    refine hK.out _ _ (ka407.b2e aa.out) (fun hHeld => ?_)
    clear hK K
    refine norm_ (a' := ?_) ?_ ?_
    rotate_left
    ·show Act.put _ (some 13) _ = _
     simp only [Act.put, List.setIfInBounds_toArray, List.set_cons_zero, List.set_cons_succ, i64_w, i32_w]
     rfl
    refine pure_ (i := 2) (N := some 14) (v := ?_) (a' := ?_) #[true, true, true, false] rfl rfl (by kernel_rfl) (fun _ _ _ h => h) (Or.inl ⟨by rfl, ?_⟩) ?_ ?_
    rotate_left
    ·intro w'
     go_simp
     with_reducible rfl
    rotate_left
    ·simp only [Act.put, List.setIfInBounds_toArray, List.set_cons_zero, List.set_cons_succ, i64_w, i32_w]
     rfl
    refine pure_ (i := 3) (N := some 11) (v := ?_) (a' := ?_) #[true, true, true, true] rfl rfl (by kernel_rfl) (fun _ _ _ h => h) (Or.inl ⟨by rfl, ?_⟩) ?_ ?_
    rotate_left
    ·intro w'
     go_simp
     with_reducible rfl
    rotate_left
    ·simp only [Act.put, List.setIfInBounds_toArray, List.set_cons_zero, List.set_cons_succ, i64_w, i32_w]
     rfl
    refine done_ (by kernel_rfl) ?_
    try go_wp2
    go_ret
    exact ⟨by first | rfl | (simp [errW_none, errW_some] <;> rfl) | (simp [*, errW_none, errW_some] <;> rfl), by repeat (first | (with_reducible first | exact HB.out | apply below_alloc | apply pw_below_drewN | apply below_drew1 | refine below_set ?_ ae.out) | exact HB.out)⟩
   ·rw [if_neg ag] at H
    have c12b0 : (ac == t144 && (ad == t145)) = false := by simpa using ag
    (try (have c12b1 : decide (ac = t144 && (ad == t145)) = false := by simpa using ag))
    (try (have c12b2 : (ac == t144 && (ad == t145)) = false := by simpa using ag))
    (try (have c12b3 : ¬ (ac = t144 && (ad == t145)) := by simpa using ag))
    clear ag
    replace H := Option.bind_eq_some_iff.mp H
    obtain ⟨⟨t146, t147⟩, A200, H⟩ := H
    (try dsimp only at H)
    have A20 := Aside0.mk A200
    clear A200
    by_cases ah : (ac == t146 && (ad == t147)) = true
    ·rw [if_pos ah] at H
     have c21b0 : (ac == t146 && (ad == t147)) = true := ah
     (try (have c21b1 : decide (ac = t146 && (ad == t147)) = true := by simpa using ah))
     (try (have c21b2 : (ac == t146 && (ad == t147)) = true := by simpa using ah))
     clear ah
     obtain rfl := Option.some.inj H
     go_enter Try.func66, Try.ntmps66
     try go_wp2_with (first | ((with_reducible refine gate_dst (N := 1) rfl ?_); refine box_event ?hg (N := 1) ?hd (cs := #[.int .i64 ac, .int .i64 ad]) (t := 63) ?hr ?_; (case hd => rfl); (case hg => rfl); (case hr => first | (go_simp; done) | (go_simp; rfl)); intro ab hg w22 hbox hb; have n0_ := Aside0.mk (below_step (by repeat (first | (with_reducible first | exact HB.out | apply below_alloc | apply pw_below_drewN | apply below_drew1) | exact HB.out)) hb); have n1_ := Aside0.mk (hbox); have n2_ := Aside0.mk ((by rw [hg]; exact (below_size (by repeat (first | (with_reducible first | exact HB.out | apply below_alloc | apply pw_below_drewN | apply below_drew1) | exact HB.out))) : w.heap.size ≤ ab)); have n3_ := Aside0.mk ((by rw [hg]; exact (below_size (by repeat (first | (with_reducible first | exact HB.out | apply below_alloc | apply pw_below_drewN | apply below_drew1) | exact HB.out))) : w.heap.size ≤ ab)); clear HB; have HB := n0_; have aa := n1_; have GW140 := n2_; have ae := n3_; clear n0_ n1_ n2_ n3_; clear hb hbox hg; have hcz23_0 : w22.cell? ⟨ab, 0, none⟩ = some (.int .i64 ac) := (blk_cell aa.out 0).trans rfl; have hcz23_1 : w22.cell? ⟨ab, 1, none⟩ = some (.int .i64 ad) := (blk_cell aa.out 1).trans rfl; have hfz23_0 := blk_frozen aa.out 0; have hfz23_1 := blk_frozen aa.out 1) | ((with_reducible refine gate_callee (f := 56) rfl ?_); refine goesL_ (some 5) rfl rfl Try.func56 (by kernel_rfl) rfl #[.agg #[.int .i64 ac, .int .i64 ad]] rfl (by (try simp only [List.map_toArray, List.map_cons, List.map_nil]); first | done | rfl) ?_; (with_reducible refine (comm_May.calls ac ad true _ A2.out).mono ?_); rintro e w24 ⟨rfl, hb⟩; refine ⟨_, rfl, ?_⟩; replace aa := Aside0.mk (blk_below (g := ab) (by (with_reducible repeat (first | refine blk_drewN ?_ _ | refine blk_drew ?_ | refine blk_alloc ?_ _)); exact aa.out) hb); replace HB := Aside0.mk (below_step (by repeat (first | (with_reducible first | exact HB.out | apply below_alloc | apply pw_below_drewN | apply below_drew1 | refine below_set ?_ ae.out) | exact HB.out)) hb); (try clear hb); (try clear af); (try clear hk); (try clear hi)))
     have n0_ := Aside0.mk (blk_drew aa.out)
     have n1_ := Aside0.mk (below_drew1 HB.out)
     clear aa
     clear HB
     have aa := n0_
     have HB := n1_
     clear n0_ n1_
     refine start_ (n := 4) (S := ka407.S0 ab (.int .i64 ac) (.int .i64 ad)) (ds := []) #[false, false, false, false] (by kernel_rfl) rfl rfl (ka407.b2e aa.out) (fun hHeld => ?_)
     generalize w24.drew = w25 at aa HB hHeld ⊢
     refine take_ (i := 0) (N := some 8) (v := ?_) (a' := ?_) #[true, false, false, false] rfl rfl (by kernel_rfl) (fun _ _ _ h => h) (Or.inl ⟨by rfl, ?_⟩) hHeld ?_ ?_
     rotate_left
     ·rintro w' ⟨s0, s1⟩
      go_simp
      with_reducible rfl
     rotate_left
     ·simp only [Act.put, List.setIfInBounds_toArray, List.set_cons_zero, List.set_cons_succ, i64_w, i32_w]
      rfl
     refine one_ (i := 1) (N := some 9) #[true, true, false, false] rfl rfl (by kernel_rfl) (by decide) (fun K hK => ?_)
     refine goes_ Try.func87 (by kernel_rfl) rfl #[] (by rfl) rfl rfl (by (try simp only [List.map_toArray, List.map_cons, List.map_nil]); first | done | rfl) ?_
     with_reducible refine (comm_NoExport.calls  t142 t143 _ A4.out).mono ?_
     rintro e w26 ⟨rfl, hb⟩
     refine ⟨_, rfl, ?_⟩
     replace aa := Aside0.mk (blk_below (g := ab) (by (with_reducible repeat (first | refine blk_drewN ?_ _ | refine blk_drew ?_ | refine blk_alloc ?_ _)); exact aa.out) hb)
     replace HB := Aside0.mk (below_step (by repeat (first | (with_reducible first | exact HB.out | apply below_alloc | apply pw_below_drewN | apply below_drew1 | refine below_set ?_ ae.out) | exact HB.out)) hb)
     (try clear hb)
     (try clear af)
     (try clear hk)
     (try clear hi)
     refine hK.out _ _ (ka407.b2e aa.out) (fun hHeld => ?_)
     clear hK K
     refine norm_ (a' := ?_) ?_ ?_
     rotate_left
     ·show Act.put _ (some 9) _ = _
      simp only [Act.put, List.setIfInBounds_toArray, List.set_cons_zero, List.set_cons_succ, i64_w, i32_w]
      rfl
     refine pure_ (i := 2) (N := some 10) (v := ?_) (a' := ?_) #[true, true, true, false] rfl rfl (by kernel_rfl) (fun _ _ _ h => h) (Or.inl ⟨by rfl, ?_⟩) ?_ ?_
     rotate_left
     ·intro w'
      go_simp
      with_reducible rfl
     rotate_left
     ·simp only [Act.put, List.setIfInBounds_toArray, List.set_cons_zero, List.set_cons_succ, i64_w, i32_w]
      rfl
     refine pure_ (i := 3) (N := some 7) (v := ?_) (a' := ?_) #[true, true, true, true] rfl rfl (by kernel_rfl) (fun _ _ _ h => h) (Or.inl ⟨by rfl, ?_⟩) ?_ ?_
     rotate_left
     ·intro w'
      go_simp
      with_reducible rfl
     rotate_left
     ·simp only [Act.put, List.setIfInBounds_toArray, List.set_cons_zero, List.set_cons_succ, i64_w, i32_w]
      rfl
     refine done_ (by kernel_rfl) ?_
     try go_wp2
     replace aa := Aside0.mk (blk_drew aa.out)
     replace HB := Aside0.mk (below_drew1 HB.out)
     refine start_ (n := 4) (S := ka407.S0 ab (.int .i64 ac) (.int .i64 ad)) (ds := []) #[false, false, false, false] (by kernel_rfl) rfl rfl (ka407.b2e aa.out) (fun hHeld => ?_)
     generalize w26.drew = w27 at aa HB hHeld ⊢
     refine take_ (i := 0) (N := some 12) (v := ?_) (a' := ?_) #[true, false, false, false] rfl rfl (by kernel_rfl) (fun _ _ _ h => h) (Or.inl ⟨by rfl, ?_⟩) hHeld ?_ ?_
     rotate_left
     ·rintro w' ⟨s0, s1⟩
      go_simp
      with_reducible rfl
     rotate_left
     ·simp only [Act.put, List.setIfInBounds_toArray, List.set_cons_zero, List.set_cons_succ, i64_w, i32_w]
      rfl
     refine one_ (i := 1) (N := some 13) #[true, true, false, false] rfl rfl (by kernel_rfl) (by decide) (fun K hK => ?_)
     refine goes_ Try.func88 (by kernel_rfl) rfl #[] (by rfl) rfl rfl (by (try simp only [List.map_toArray, List.map_cons, List.map_nil]); first | done | rfl) ?_
     with_reducible refine (comm_NoAdvertise.calls  t144 t145 _ A11.out).mono ?_
     rintro e w28 ⟨rfl, hb⟩
     refine ⟨_, rfl, ?_⟩
     replace aa := Aside0.mk (blk_below (g := ab) (by (with_reducible repeat (first | refine blk_drewN ?_ _ | refine blk_drew ?_ | refine blk_alloc ?_ _)); exact aa.out) hb)
     replace HB := Aside0.mk (below_step (by repeat (first | (with_reducible first | exact HB.out | apply below_alloc | apply pw_below_drewN | apply below_drew1 | refine below_set ?_ ae.out) | exact HB.out)) hb)
     (try clear hb)
     (try clear af)
     (try clear hk)
     (try clear hi)
     refine hK.out _ _ (ka407.b2e aa.out) (fun hHeld => ?_)
     clear hK K
     refine norm_ (a' := ?_) ?_ ?_
     rotate_left
     ·show Act.put _ (some 13) _ = _
      simp only [Act.put, List.setIfInBounds_toArray, List.set_cons_zero, List.set_cons_succ, i64_w, i32_w]
      rfl
     refine pure_ (i := 2) (N := some 14) (v := ?_) (a' := ?_) #[true, true, true, false] rfl rfl (by kernel_rfl) (fun _ _ _ h => h) (Or.inl ⟨by rfl, ?_⟩) ?_ ?_
     rotate_left
     ·intro w'
      go_simp
      with_reducible rfl
     rotate_left
     ·simp only [Act.put, List.setIfInBounds_toArray, List.set_cons_zero, List.set_cons_succ, i64_w, i32_w]
      rfl
     refine pure_ (i := 3) (N := some 11) (v := ?_) (a' := ?_) #[true, true, true, true] rfl rfl (by kernel_rfl) (fun _ _ _ h => h) (Or.inl ⟨by rfl, ?_⟩) ?_ ?_
     rotate_left
     ·intro w'
      go_simp
      with_reducible rfl
     rotate_left
     ·simp only [Act.put, List.setIfInBounds_toArray, List.set_cons_zero, List.set_cons_succ, i64_w, i32_w]
      rfl
     refine done_ (by kernel_rfl) ?_
     try go_wp2
     replace aa := Aside0.mk (blk_drew aa.out)
     replace HB := Aside0.mk (below_drew1 HB.out)
     refine start_ (n := 4) (S := ka407.S0 ab (.int .i64 ac) (.int .i64 ad)) (ds := []) #[false, false, false, false] (by kernel_rfl) rfl rfl (ka407.b2e aa.out) (fun hHeld => ?_)
     generalize w28.drew = w29 at aa HB hHeld ⊢
     refine take_ (i := 0) (N := some 16) (v := ?_) (a' := ?_) #[true, false, false, false] rfl rfl (by kernel_rfl) (fun _ _ _ h => h) (Or.inl ⟨by rfl, ?_⟩) hHeld ?_ ?_
     rotate_left
     ·rintro w' ⟨s0, s1⟩
      go_simp
      with_reducible rfl
     rotate_left
     ·simp only [Act.put, List.setIfInBounds_toArray, List.set_cons_zero, List.set_cons_succ, i64_w, i32_w]
      rfl
     refine one_ (i := 1) (N := some 17) #[true, true, false, false] rfl rfl (by kernel_rfl) (by decide) (fun K hK => ?_)
     refine goes_ Try.func89 (by kernel_rfl) rfl #[] (by rfl) rfl rfl (by (try simp only [List.map_toArray, List.map_cons, List.map_nil]); first | done | rfl) ?_
     with_reducible refine (comm_Local.calls  t146 t147 _ A20.out).mono ?_
     rintro e w30 ⟨rfl, hb⟩
     refine ⟨_, rfl, ?_⟩
     replace aa := Aside0.mk (blk_below (g := ab) (by (with_reducible repeat (first | refine blk_drewN ?_ _ | refine blk_drew ?_ | refine blk_alloc ?_ _)); exact aa.out) hb)
     replace HB := Aside0.mk (below_step (by repeat (first | (with_reducible first | exact HB.out | apply below_alloc | apply pw_below_drewN | apply below_drew1 | refine below_set ?_ ae.out) | exact HB.out)) hb)
     (try clear hb)
     (try clear af)
     (try clear hk)
     (try clear hi)
     refine hK.out _ _ (ka407.b2e aa.out) (fun hHeld => ?_)
     clear hK K
     refine norm_ (a' := ?_) ?_ ?_
     rotate_left
     ·show Act.put _ (some 17) _ = _
      simp only [Act.put, List.setIfInBounds_toArray, List.set_cons_zero, List.set_cons_succ, i64_w, i32_w]
      rfl
     refine pure_ (i := 2) (N := some 18) (v := ?_) (a' := ?_) #[true, true, true, false] rfl rfl (by kernel_rfl) (fun _ _ _ h => h) (Or.inl ⟨by rfl, ?_⟩) ?_ ?_
     rotate_left
     ·intro w'
      go_simp
      with_reducible rfl
     rotate_left
     ·simp only [Act.put, List.setIfInBounds_toArray, List.set_cons_zero, List.set_cons_succ, i64_w, i32_w]
      rfl
     refine pure_ (i := 3) (N := some 15) (v := ?_) (a' := ?_) #[true, true, true, true] rfl rfl (by kernel_rfl) (fun _ _ _ h => h) (Or.inl ⟨by rfl, ?_⟩) ?_ ?_
     rotate_left
     ·intro w'
      go_simp
      with_reducible rfl
     rotate_left
     ·simp only [Act.put, List.setIfInBounds_toArray, List.set_cons_zero, List.set_cons_succ, i64_w, i32_w]
      rfl
     refine done_ (by kernel_rfl) ?_
     try go_wp2
     go_ret
     exact ⟨by first | rfl | (simp [errW_none, errW_some] <;> rfl) | (simp [*, errW_none, errW_some] <;> rfl), by repeat (first | (with_reducible first | exact HB.out | apply below_alloc | apply pw_below_drewN | apply below_drew1 | refine below_set ?_ ae.out) | exact HB.out)⟩
    ·rw [if_neg ah] at H
     have c21b0 : (ac == t146 && (ad == t147)) = false := by simpa using ah
     (try (have c21b1 : decide (ac = t146 && (ad == t147)) = false := by simpa using ah))
     (try (have c21b2 : (ac == t146 && (ad == t147)) = false := by simpa using ah))
     (try (have c21b3 : ¬ (ac = t146 && (ad == t147)) := by simpa using ah))
     clear ah
     replace H := Option.bind_eq_some_iff.mp H
     obtain ⟨t148, A310, H⟩ := H
     (try dsimp only at H)
     have A31 := Aside0.mk A310
     clear A310
     by_cases c32 : t148.size + 1 ≤ 9223372036854775807
     ·rw [if_pos c32] at H
      have c32b0 := eq_true c32
      have c32b1 : decide (t148.size + 1 ≤ 9223372036854775807) = true := decide_eq_true c32
      try have c32b2 : (9223372036854775807 < t148.size + 1) = False := eq_false (Nat.not_lt.2 c32)
      replace H := Option.bind_eq_some_iff.mp H
      obtain ⟨t149, A330, H⟩ := H
      (try dsimp only at H)
      have A33 := Aside0.mk A330
      clear A330
      by_cases c34 : (t148 ++ (⟨#[58]⟩ : ByteArray)).size + t149.size ≤ 9223372036854775807
      ·rw [if_pos c34] at H
       have c34b0 := eq_true c34
       have c34b1 : decide ((t148 ++ (⟨#[58]⟩ : ByteArray)).size + t149.size ≤ 9223372036854775807) = true := decide_eq_true c34
       try have c34b2 : (9223372036854775807 < (t148 ++ (⟨#[58]⟩ : ByteArray)).size + t149.size) = False := eq_false (Nat.not_lt.2 c34)
       try have c34b3 : (9223372036854775807 < t148.size + 1 + t149.size) = False := eq_false (Nat.not_lt.2 (by have h_ := c34; simp only [ByteArray.size_append] at h_; exact h_))
       obtain rfl := Option.some.inj H
       go_enter Try.func66, Try.ntmps66
       try go_wp2_with (first | ((with_reducible refine gate_dst (N := 1) rfl ?_); refine box_event ?hg (N := 1) ?hd (cs := #[.int .i64 ac, .int .i64 ad]) (t := 63) ?hr ?_; (case hd => rfl); (case hg => rfl); (case hr => first | (go_simp; done) | (go_simp; rfl)); intro ab hg w35 hbox hb; have n0_ := Aside0.mk (below_step (by repeat (first | (with_reducible first | exact HB.out | apply below_alloc | apply pw_below_drewN | apply below_drew1) | exact HB.out)) hb); have n1_ := Aside0.mk (hbox); have n2_ := Aside0.mk ((by rw [hg]; exact (below_size (by repeat (first | (with_reducible first | exact HB.out | apply below_alloc | apply pw_below_drewN | apply below_drew1) | exact HB.out))) : w.heap.size ≤ ab)); have n3_ := Aside0.mk ((by rw [hg]; exact (below_size (by repeat (first | (with_reducible first | exact HB.out | apply below_alloc | apply pw_below_drewN | apply below_drew1) | exact HB.out))) : w.heap.size ≤ ab)); clear HB; have HB := n0_; have aa := n1_; have GW140 := n2_; have ae := n3_; clear n0_ n1_ n2_ n3_; clear hb hbox hg; have hcz36_0 : w35.cell? ⟨ab, 0, none⟩ = some (.int .i64 ac) := (blk_cell aa.out 0).trans rfl; have hcz36_1 : w35.cell? ⟨ab, 1, none⟩ = some (.int .i64 ad) := (blk_cell aa.out 1).trans rfl; have hfz36_0 := blk_frozen aa.out 0; have hfz36_1 := blk_frozen aa.out 1) | ((with_reducible refine gate_callee (f := 56) rfl ?_); refine goesL_ (some 5) rfl rfl Try.func56 (by kernel_rfl) rfl #[.agg #[.int .i64 ac, .int .i64 ad]] rfl (by (try simp only [List.map_toArray, List.map_cons, List.map_nil]); first | done | rfl) ?_; (with_reducible refine (comm_May.calls ac ad true _ A2.out).mono ?_); rintro e w37 ⟨rfl, hb⟩; refine ⟨_, rfl, ?_⟩; replace aa := Aside0.mk (blk_below (g := ab) (by (with_reducible repeat (first | refine blk_drewN ?_ _ | refine blk_drew ?_ | refine blk_alloc ?_ _)); exact aa.out) hb); replace HB := Aside0.mk (below_step (by repeat (first | (with_reducible first | exact HB.out | apply below_alloc | apply pw_below_drewN | apply below_drew1 | refine below_set ?_ ae.out) | exact HB.out)) hb); (try clear hb); (try clear af); (try clear hk); (try clear hi)))
       have n0_ := Aside0.mk (blk_drew aa.out)
       have n1_ := Aside0.mk (below_drew1 HB.out)
       clear aa
       clear HB
       have aa := n0_
       have HB := n1_
       clear n0_ n1_
       refine start_ (n := 4) (S := ka407.S0 ab (.int .i64 ac) (.int .i64 ad)) (ds := []) #[false, false, false, false] (by kernel_rfl) rfl rfl (ka407.b2e aa.out) (fun hHeld => ?_)
       generalize w37.drew = w38 at aa HB hHeld ⊢
       refine take_ (i := 0) (N := some 8) (v := ?_) (a' := ?_) #[true, false, false, false] rfl rfl (by kernel_rfl) (fun _ _ _ h => h) (Or.inl ⟨by rfl, ?_⟩) hHeld ?_ ?_
       rotate_left
       ·rintro w' ⟨s0, s1⟩
        go_simp
        with_reducible rfl
       rotate_left
       ·simp only [Act.put, List.setIfInBounds_toArray, List.set_cons_zero, List.set_cons_succ, i64_w, i32_w]
        rfl
       refine one_ (i := 1) (N := some 9) #[true, true, false, false] rfl rfl (by kernel_rfl) (by decide) (fun K hK => ?_)
       refine goes_ Try.func87 (by kernel_rfl) rfl #[] (by rfl) rfl rfl (by (try simp only [List.map_toArray, List.map_cons, List.map_nil]); first | done | rfl) ?_
       with_reducible refine (comm_NoExport.calls  t142 t143 _ A4.out).mono ?_
       rintro e w39 ⟨rfl, hb⟩
       refine ⟨_, rfl, ?_⟩
       replace aa := Aside0.mk (blk_below (g := ab) (by (with_reducible repeat (first | refine blk_drewN ?_ _ | refine blk_drew ?_ | refine blk_alloc ?_ _)); exact aa.out) hb)
       replace HB := Aside0.mk (below_step (by repeat (first | (with_reducible first | exact HB.out | apply below_alloc | apply pw_below_drewN | apply below_drew1 | refine below_set ?_ ae.out) | exact HB.out)) hb)
       (try clear hb)
       (try clear af)
       (try clear hk)
       (try clear hi)
       refine hK.out _ _ (ka407.b2e aa.out) (fun hHeld => ?_)
       clear hK K
       refine norm_ (a' := ?_) ?_ ?_
       rotate_left
       ·show Act.put _ (some 9) _ = _
        simp only [Act.put, List.setIfInBounds_toArray, List.set_cons_zero, List.set_cons_succ, i64_w, i32_w]
        rfl
       refine pure_ (i := 2) (N := some 10) (v := ?_) (a' := ?_) #[true, true, true, false] rfl rfl (by kernel_rfl) (fun _ _ _ h => h) (Or.inl ⟨by rfl, ?_⟩) ?_ ?_
       rotate_left
       ·intro w'
        go_simp
        with_reducible rfl
       rotate_left
       ·simp only [Act.put, List.setIfInBounds_toArray, List.set_cons_zero, List.set_cons_succ, i64_w, i32_w]
        rfl
       refine pure_ (i := 3) (N := some 7) (v := ?_) (a' := ?_) #[true, true, true, true] rfl rfl (by kernel_rfl) (fun _ _ _ h => h) (Or.inl ⟨by rfl, ?_⟩) ?_ ?_
       rotate_left
       ·intro w'
        go_simp
        with_reducible rfl
       rotate_left
       ·simp only [Act.put, List.setIfInBounds_toArray, List.set_cons_zero, List.set_cons_succ, i64_w, i32_w]
        rfl
       refine done_ (by kernel_rfl) ?_
       try go_wp2
       replace aa := Aside0.mk (blk_drew aa.out)
       replace HB := Aside0.mk (below_drew1 HB.out)
       refine start_ (n := 4) (S := ka407.S0 ab (.int .i64 ac) (.int .i64 ad)) (ds := []) #[false, false, false, false] (by kernel_rfl) rfl rfl (ka407.b2e aa.out) (fun hHeld => ?_)
       generalize w39.drew = w40 at aa HB hHeld ⊢
       refine take_ (i := 0) (N := some 12) (v := ?_) (a' := ?_) #[true, false, false, false] rfl rfl (by kernel_rfl) (fun _ _ _ h => h) (Or.inl ⟨by rfl, ?_⟩) hHeld ?_ ?_
       rotate_left
       ·rintro w' ⟨s0, s1⟩
        go_simp
        with_reducible rfl
       rotate_left
       ·simp only [Act.put, List.setIfInBounds_toArray, List.set_cons_zero, List.set_cons_succ, i64_w, i32_w]
        rfl
       refine one_ (i := 1) (N := some 13) #[true, true, false, false] rfl rfl (by kernel_rfl) (by decide) (fun K hK => ?_)
       refine goes_ Try.func88 (by kernel_rfl) rfl #[] (by rfl) rfl rfl (by (try simp only [List.map_toArray, List.map_cons, List.map_nil]); first | done | rfl) ?_
       with_reducible refine (comm_NoAdvertise.calls  t144 t145 _ A11.out).mono ?_
       rintro e w41 ⟨rfl, hb⟩
       refine ⟨_, rfl, ?_⟩
       replace aa := Aside0.mk (blk_below (g := ab) (by (with_reducible repeat (first | refine blk_drewN ?_ _ | refine blk_drew ?_ | refine blk_alloc ?_ _)); exact aa.out) hb)
       replace HB := Aside0.mk (below_step (by repeat (first | (with_reducible first | exact HB.out | apply below_alloc | apply pw_below_drewN | apply below_drew1 | refine below_set ?_ ae.out) | exact HB.out)) hb)
       (try clear hb)
       (try clear af)
       (try clear hk)
       (try clear hi)
       refine hK.out _ _ (ka407.b2e aa.out) (fun hHeld => ?_)
       clear hK K
       refine norm_ (a' := ?_) ?_ ?_
       rotate_left
       ·show Act.put _ (some 13) _ = _
        simp only [Act.put, List.setIfInBounds_toArray, List.set_cons_zero, List.set_cons_succ, i64_w, i32_w]
        rfl
       refine pure_ (i := 2) (N := some 14) (v := ?_) (a' := ?_) #[true, true, true, false] rfl rfl (by kernel_rfl) (fun _ _ _ h => h) (Or.inl ⟨by rfl, ?_⟩) ?_ ?_
       rotate_left
       ·intro w'
        go_simp
        with_reducible rfl
       rotate_left
       ·simp only [Act.put, List.setIfInBounds_toArray, List.set_cons_zero, List.set_cons_succ, i64_w, i32_w]
        rfl
       refine pure_ (i := 3) (N := some 11) (v := ?_) (a' := ?_) #[true, true, true, true] rfl rfl (by kernel_rfl) (fun _ _ _ h => h) (Or.inl ⟨by rfl, ?_⟩) ?_ ?_
       rotate_left
       ·intro w'
        go_simp
        with_reducible rfl
       rotate_left
       ·simp only [Act.put, List.setIfInBounds_toArray, List.set_cons_zero, List.set_cons_succ, i64_w, i32_w]
        rfl
       refine done_ (by kernel_rfl) ?_
       try go_wp2
       replace aa := Aside0.mk (blk_drew aa.out)
       replace HB := Aside0.mk (below_drew1 HB.out)
       refine start_ (n := 4) (S := ka407.S0 ab (.int .i64 ac) (.int .i64 ad)) (ds := []) #[false, false, false, false] (by kernel_rfl) rfl rfl (ka407.b2e aa.out) (fun hHeld => ?_)
       generalize w41.drew = w42 at aa HB hHeld ⊢
       refine take_ (i := 0) (N := some 16) (v := ?_) (a' := ?_) #[true, false, false, false] rfl rfl (by kernel_rfl) (fun _ _ _ h => h) (Or.inl ⟨by rfl, ?_⟩) hHeld ?_ ?_
       rotate_left
       ·rintro w' ⟨s0, s1⟩
        go_simp
        with_reducible rfl
       rotate_left
       ·simp only [Act.put, List.setIfInBounds_toArray, List.set_cons_zero, List.set_cons_succ, i64_w, i32_w]
        rfl
       refine one_ (i := 1) (N := some 17) #[true, true, false, false] rfl rfl (by kernel_rfl) (by decide) (fun K hK => ?_)
       refine goes_ Try.func89 (by kernel_rfl) rfl #[] (by rfl) rfl rfl (by (try simp only [List.map_toArray, List.map_cons, List.map_nil]); first | done | rfl) ?_
       with_reducible refine (comm_Local.calls  t146 t147 _ A20.out).mono ?_
       rintro e w43 ⟨rfl, hb⟩
       refine ⟨_, rfl, ?_⟩
       replace aa := Aside0.mk (blk_below (g := ab) (by (with_reducible repeat (first | refine blk_drewN ?_ _ | refine blk_drew ?_ | refine blk_alloc ?_ _)); exact aa.out) hb)
       replace HB := Aside0.mk (below_step (by repeat (first | (with_reducible first | exact HB.out | apply below_alloc | apply pw_below_drewN | apply below_drew1 | refine below_set ?_ ae.out) | exact HB.out)) hb)
       (try clear hb)
       (try clear af)
       (try clear hk)
       (try clear hi)
       refine hK.out _ _ (ka407.b2e aa.out) (fun hHeld => ?_)
       clear hK K
       refine norm_ (a' := ?_) ?_ ?_
       rotate_left
       ·show Act.put _ (some 17) _ = _
        simp only [Act.put, List.setIfInBounds_toArray, List.set_cons_zero, List.set_cons_succ, i64_w, i32_w]
        rfl
       refine pure_ (i := 2) (N := some 18) (v := ?_) (a' := ?_) #[true, true, true, false] rfl rfl (by kernel_rfl) (fun _ _ _ h => h) (Or.inl ⟨by rfl, ?_⟩) ?_ ?_
       rotate_left
       ·intro w'
        go_simp
        with_reducible rfl
       rotate_left
       ·simp only [Act.put, List.setIfInBounds_toArray, List.set_cons_zero, List.set_cons_succ, i64_w, i32_w]
        rfl
       refine pure_ (i := 3) (N := some 15) (v := ?_) (a' := ?_) #[true, true, true, true] rfl rfl (by kernel_rfl) (fun _ _ _ h => h) (Or.inl ⟨by rfl, ?_⟩) ?_ ?_
       rotate_left
       ·intro w'
        go_simp
        with_reducible rfl
       rotate_left
       ·simp only [Act.put, List.setIfInBounds_toArray, List.set_cons_zero, List.set_cons_succ, i64_w, i32_w]
        rfl
       refine done_ (by kernel_rfl) ?_
       try go_wp2
       replace aa := Aside0.mk (blk_drew aa.out)
       replace HB := Aside0.mk (below_drew1 HB.out)
       refine start_ (n := 9) (S := ka407.S0 ab (.int .i64 ac) (.int .i64 ad)) (ds := []) #[false, false, false, false, false, false, false, false, false] (by kernel_rfl) rfl rfl (ka407.b2e aa.out) (fun hHeld => ?_); refine with_tabW comm_Text.tab9 comm_Text.bits9 (fun HT_ HW_ => ?_)
       generalize w43.drew = w44 at aa HB hHeld ⊢
       refine pure_ (i := 0) (N := some 19) (v := ?_) (a' := ?_) #[true, false, false, false, false, false, false, false, false] rfl rfl (any_of HT_.out (by kernel_rfl)) (fun _ _ _ h => h) (Or.inl ⟨by rfl, ?_⟩) ?_ ?_
       rotate_left
       ·intro w'
        go_simp
        with_reducible rfl
       rotate_left
       ·simp only [Act.put, List.setIfInBounds_toArray, List.set_cons_zero, List.set_cons_succ, i64_w, i32_w]
        rfl
       refine pure_ (i := 4) (N := some 23) (v := ?_) (a' := ?_) #[true, false, false, false, true, false, false, false, false] rfl rfl (any_of HT_.out (by kernel_rfl)) (fun _ _ _ h => h) (Or.inl ⟨by rfl, ?_⟩) ?_ ?_
       rotate_left
       ·intro w'
        go_simp
        with_reducible rfl
       rotate_left
       ·simp only [Act.put, List.setIfInBounds_toArray, List.set_cons_zero, List.set_cons_succ, i64_w, i32_w]
        rfl
       refine take_ (i := 1) (N := some 20) (v := ?_) (a' := ?_) #[true, true, false, false, true, false, false, false, false] rfl rfl (take_ofW HT_.out HW_.out (by kernel_rfl)) (fun _ _ _ h => h) (Or.inl ⟨by rfl, ?_⟩) hHeld ?_ ?_
       rotate_left
       ·rintro w' ⟨s0, s1⟩
        go_simp
        with_reducible rfl
       rotate_left
       ·simp only [Act.put, List.setIfInBounds_toArray, List.set_cons_zero, List.set_cons_succ, i64_w, i32_w]
        rfl
       refine take_ (i := 5) (N := some 24) (v := ?_) (a' := ?_) #[true, true, false, false, true, true, false, false, false] rfl rfl (take_ofW HT_.out HW_.out (by kernel_rfl)) (fun _ _ _ h => h) (Or.inl ⟨by rfl, ?_⟩) hHeld ?_ ?_
       rotate_left
       ·rintro w' ⟨s0, s1⟩
        go_simp
        with_reducible rfl
       rotate_left
       ·simp only [Act.put, List.setIfInBounds_toArray, List.set_cons_zero, List.set_cons_succ, i64_w, i32_w]
        rfl
       refine one_ (i := 2) (N := some 21) #[true, true, true, false, true, true, false, false, false] rfl rfl (one_of HT_.out (by kernel_rfl)) (by decide) (fun K hK => ?_)
       refine goes_ Try.func90 (by kernel_rfl) rfl #[.int .i64 ac] (by rfl) rfl rfl (by (try simp only [List.map_toArray, List.map_cons, List.map_nil]); first | done | rfl) ?_
       with_reducible refine (comm_digits.calls ac t148 _ A31.out).mono ?_
       rintro e w45 ⟨rfl, hb⟩
       refine ⟨_, rfl, ?_⟩
       replace aa := Aside0.mk (blk_below (g := ab) (by (with_reducible repeat (first | refine blk_drewN ?_ _ | refine blk_drew ?_ | refine blk_alloc ?_ _)); exact aa.out) hb)
       replace HB := Aside0.mk (below_step (by repeat (first | (with_reducible first | exact HB.out | apply below_alloc | apply pw_below_drewN | apply below_drew1 | refine below_set ?_ ae.out) | exact HB.out)) hb)
       (try clear hb)
       (try clear af)
       (try clear hk)
       (try clear hi)
       refine hK.out _ _ (ka407.b2e aa.out) (fun hHeld => ?_)
       clear hK K
       refine norm_ (a' := ?_) ?_ ?_
       rotate_left
       ·show Act.put _ (some 21) _ = _
        simp only [Act.put, List.setIfInBounds_toArray, List.set_cons_zero, List.set_cons_succ, i64_w, i32_w]
        rfl
       refine pure_ (i := 3) (N := some 22) (v := ?_) (a' := ?_) #[true, true, true, true, true, true, false, false, false] rfl rfl (any_of HT_.out (by kernel_rfl)) (fun _ _ _ h => h) (Or.inl ⟨by rfl, ?_⟩) ?_ ?_
       rotate_left
       ·intro w'
        go_simp
        with_reducible rfl
       rotate_left
       ·simp only [Act.put, List.setIfInBounds_toArray, List.set_cons_zero, List.set_cons_succ, i64_w, i32_w]
        rfl
       refine one_ (i := 6) (N := some 25) #[true, true, true, true, true, true, true, false, false] rfl rfl (one_of HT_.out (by kernel_rfl)) (by decide) (fun K hK => ?_)
       refine goes_ Try.func90 (by kernel_rfl) rfl #[.int .i64 ad] (by rfl) rfl rfl (by (try simp only [List.map_toArray, List.map_cons, List.map_nil]); first | done | rfl) ?_
       with_reducible refine (comm_digits.calls ad t149 _ A33.out).mono ?_
       rintro e w46 ⟨rfl, hb⟩
       refine ⟨_, rfl, ?_⟩
       replace aa := Aside0.mk (blk_below (g := ab) (by (with_reducible repeat (first | refine blk_drewN ?_ _ | refine blk_drew ?_ | refine blk_alloc ?_ _)); exact aa.out) hb)
       replace HB := Aside0.mk (below_step (by repeat (first | (with_reducible first | exact HB.out | apply below_alloc | apply pw_below_drewN | apply below_drew1 | refine below_set ?_ ae.out) | exact HB.out)) hb)
       (try clear hb)
       (try clear af)
       (try clear hk)
       (try clear hi)
       refine hK.out _ _ (ka407.b2e aa.out) (fun hHeld => ?_)
       clear hK K
       refine norm_ (a' := ?_) ?_ ?_
       rotate_left
       ·show Act.put _ (some 25) _ = _
        simp only [Act.put, List.setIfInBounds_toArray, List.set_cons_zero, List.set_cons_succ, i64_w, i32_w]
        rfl
       refine pure_ (i := 7) (N := some 26) (v := ?_) (a' := ?_) #[true, true, true, true, true, true, true, true, false] rfl rfl (any_of HT_.out (by kernel_rfl)) (fun _ _ _ h => h) (Or.inl ⟨by rfl, ?_⟩) ?_ ?_
       rotate_left
       ·intro w'
        go_simp
        with_reducible rfl
       rotate_left
       ·simp only [Act.put, List.setIfInBounds_toArray, List.set_cons_zero, List.set_cons_succ, i64_w, i32_w]
        rfl
       refine pure_ (i := 8) (N := some 2) (v := ?_) (a' := ?_) #[true, true, true, true, true, true, true, true, true] rfl rfl (any_of HT_.out (by kernel_rfl)) (fun _ _ _ h => h) (Or.inl ⟨by rfl, ?_⟩) ?_ ?_
       rotate_left
       ·intro w'
        go_simp
        with_reducible rfl
       rotate_left
       ·simp only [Act.put, List.setIfInBounds_toArray, List.set_cons_zero, List.set_cons_succ, i64_w, i32_w]
        rfl
       refine done_ (done_of HT_.out (by kernel_rfl)) ?_
       try go_wp2
       go_ret
       exact ⟨by first | rfl | (simp [errW_none, errW_some] <;> rfl) | (simp [*, errW_none, errW_some] <;> rfl), by repeat (first | (with_reducible first | exact HB.out | apply below_alloc | apply pw_below_drewN | apply below_drew1 | refine below_set ?_ ae.out) | exact HB.out)⟩
      ·rw [if_neg c34] at H
       exact absurd H (by simp)
     ·rw [if_neg c32] at H
      exact absurd H (by simp)
 ·replace c3 := Bool.eq_false_iff.mpr c3
  subst c3
  have H1 : (some (⟨#[]⟩ : ByteArray)) = some r := by rw [if_neg (show ¬ (false = true) by decide)] at H; exact H
  clear H
  have H := H1
  clear H1
  obtain rfl := Option.some.inj H
  go_enter Try.func66, Try.ntmps66
  go_wp2_with (first | ((with_reducible refine gate_dst (N := 1) rfl ?_); refine box_event ?hg (N := 1) ?hd (cs := #[.int .i64 ac, .int .i64 ad]) (t := 63) ?hr ?_; (case hd => rfl); (case hg => rfl); (case hr => first | (go_simp; done) | (go_simp; rfl)); intro ab hg w47 hbox hb; have n0_ := Aside0.mk (below_step (by repeat (first | (with_reducible first | exact HB.out | apply below_alloc | apply pw_below_drewN | apply below_drew1) | exact HB.out)) hb); have n1_ := Aside0.mk (hbox); have n2_ := Aside0.mk ((by rw [hg]; exact (below_size (by repeat (first | (with_reducible first | exact HB.out | apply below_alloc | apply pw_below_drewN | apply below_drew1) | exact HB.out))) : w.heap.size ≤ ab)); have n3_ := Aside0.mk ((by rw [hg]; exact (below_size (by repeat (first | (with_reducible first | exact HB.out | apply below_alloc | apply pw_below_drewN | apply below_drew1) | exact HB.out))) : w.heap.size ≤ ab)); clear HB; have HB := n0_; have aa := n1_; have GW140 := n2_; have ae := n3_; clear n0_ n1_ n2_ n3_; clear hb hbox hg; have hcz48_0 : w47.cell? ⟨ab, 0, none⟩ = some (.int .i64 ac) := (blk_cell aa.out 0).trans rfl; have hcz48_1 : w47.cell? ⟨ab, 1, none⟩ = some (.int .i64 ad) := (blk_cell aa.out 1).trans rfl; have hfz48_0 := blk_frozen aa.out 0; have hfz48_1 := blk_frozen aa.out 1) | ((with_reducible refine gate_callee (f := 56) rfl ?_); refine goesL_ (some 5) rfl rfl Try.func56 (by kernel_rfl) rfl #[.agg #[.int .i64 ac, .int .i64 ad]] rfl (by (try simp only [List.map_toArray, List.map_cons, List.map_nil]); first | done | rfl) ?_; (with_reducible refine (comm_May.calls ac ad false _ A2.out).mono ?_); rintro e w49 ⟨rfl, hb⟩; refine ⟨_, rfl, ?_⟩; replace aa := Aside0.mk (blk_below (g := ab) (by (with_reducible repeat (first | refine blk_drewN ?_ _ | refine blk_drew ?_ | refine blk_alloc ?_ _)); exact aa.out) hb); replace HB := Aside0.mk (below_step (by repeat (first | (with_reducible first | exact HB.out | apply below_alloc | apply pw_below_drewN | apply below_drew1 | refine below_set ?_ ae.out) | exact HB.out)) hb); (try clear hb); (try clear af); (try clear hk); (try clear hi)))
  go_ret
  exact ⟨by first | rfl | (simp [errW_none, errW_some] <;> rfl) | (simp [*, errW_none, errW_some] <;> rfl), by repeat (first | (with_reducible first | exact HB.out | apply below_alloc | apply pw_below_drewN | apply below_drew1 | refine below_set ?_ ae.out) | exact HB.out)⟩

/-! ### comm_Texts: function 39 -/
def comm_Texts.l0 : Nat → List ByteArray → List (S63) → Int → Int → Option (ByteArray)
  | 0, _, _, _, _ => none
  | k + 1, x3, x9, x10, x11 => if x11 < x10 then (if 0 ≤ x11 then (if x11 < (x9.length : Int) then ((comm_Text.f ((rd_T63 x9 x11).f0) ((rd_T63 x9 x11).f1)).bind fun t153 => (if x3.length < 8796093022208 then (comm_Texts.l0 k (x3 ++ [t153]) x9 x10 (wrap64 (x11 + 1))) else (none))) else (none)) else (none)) else ((strings_Join.f x3 (⟨#[32]⟩ : ByteArray)).bind fun t157 => (some t157))
def comm_Texts.f (k : Nat) (l0 : List (S63)) : Option (ByteArray) := (comm_Set.f k l0).bind fun t150 => (if t150 = true then (comm_Texts.l0 k ([] : List ByteArray) l0 (l0.length : Int) 0) else (some (⟨#[]⟩ : ByteArray)))
theorem comm_Texts.mono_l : ∀ k, (∀ y0 y1 y2 y3, LeO (comm_Texts.l0 k y0 y1 y2 y3) (comm_Texts.l0 (k + 1) y0 y1 y2 y3))
  | 0 => fun _ _ _ _ r h => by simp [comm_Texts.l0] at h
  | k + 1 => by
    have ih0 := comm_Texts.mono_l k
    · intro y0 y1 y2 y3
      unfold comm_Texts.l0
      repeat' first
      | (with_reducible exact ih0 _ _ _ _)
      | (with_reducible exact comm_Set.mono _ _)
      | (with_reducible exact LeO.refl _)
      | (with_reducible exact LeO.none _)
      | (with_reducible refine LeO.ite ?_ ?_)
      | (with_reducible refine LeO.bind ?_ (fun _ => ?_))
      | exact ih0 _ _ _ _
      | exact comm_Set.mono _ _
      | exact LeO.none _
      | refine LeO.ite ?_ ?_
      | refine LeO.bind ?_ (fun _ => ?_)
theorem comm_Texts.mono : ∀ a0 k, LeO (comm_Texts.f k a0) (comm_Texts.f (k + 1) a0) := by
  intro a0 k
  have ih0 := comm_Texts.mono_l k
  unfold comm_Texts.f
  repeat' first
      | (with_reducible exact ih0 _ _ _ _)
      | (with_reducible exact comm_Set.mono _ _)
      | (with_reducible exact LeO.refl _)
      | (with_reducible exact LeO.none _)
      | (with_reducible refine LeO.ite ?_ ?_)
      | (with_reducible refine LeO.bind ?_ (fun _ => ?_))
      | exact ih0 _ _ _ _
      | exact comm_Set.mono _ _
      | exact LeO.none _
      | refine LeO.ite ?_ ?_
      | refine LeO.bind ?_ (fun _ => ?_)
set_option maxHeartbeats 8000000 in
set_option maxRecDepth 100000 in
theorem comm_Texts.calls (k : Nat) (A0 : Option Addr) (c0 : Nat) (l0 : List (S63)) (r : ByteArray) (w : World) (hr0 : Kd.C k63 w A0 l0.length l0) (hc0 : l0.length ≤ c0) (h : comm_Texts.f k l0 = some r) :
  Calls Try.prog 39 #[.slice A0 l0.length c0] w fun e w' => e = .returned (.string r) ∧ Below w.heap.size w w' := by
 have hu63 := Try.underlying63
 have HR0 := Aside0.mk hr0
 have HC0 := Aside0.mk hc0
 clear hr0 hc0
 have HB := Aside0.mk (Below.refl w.heap.size w)
 have H : ((comm_Set.f k l0).bind fun t150 => (if t150 = true then (comm_Texts.l0 k ([] : List ByteArray) l0 (l0.length : Int) 0) else (some (⟨#[]⟩ : ByteArray)))) = some r := h
 clear h
 replace H := Option.bind_eq_some_iff.mp H
 obtain ⟨t150, A20, H⟩ := H
 (try dsimp only at H)
 have A2 := Aside0.mk A20
 clear A20
 by_cases c3 : t150 = true
 ·subst c3
  have H1 : (comm_Texts.l0 k ([] : List ByteArray) l0 (l0.length : Int) 0) = some r := by rw [if_pos rfl] at H; exact H
  clear H
  have H := H1
  clear H1
  have H' := Aside0.mk H
  clear H
  go_enter Try.func39, Try.ntmps39
  go_wp2_with (first | ((with_reducible refine gate_callee (f := 42) rfl ?_); refine goesL_ (some 7) rfl rfl Try.func42 (by kernel_rfl) rfl #[.slice A0 l0.length c0] rfl (by (try simp only [List.map_toArray, List.map_cons, List.map_nil]); first | done | rfl) ?_; (with_reducible refine (comm_Set.calls k _ _ l0 true _ ?side1 ?side2 A2.out).mono ?_); (case side1 => repeat (first | exact HR0.out | (with_reducible refine Kd.C_alloc ?_ _) | (with_reducible refine Kd.C_drewN ?_ _) | (with_reducible refine Kd.C_drew ?_))); (case side2 => exact HC0.out); rintro e w4 ⟨rfl, hb⟩; refine ⟨_, rfl, ?_⟩; replace HB := Aside0.mk (below_step (by repeat (first | (with_reducible first | exact HB.out | apply below_alloc | apply pw_below_drewN | apply below_drew1) | exact HB.out)) hb); (try clear hb); (try clear hb2); (try clear hk); (try clear hi)))
  go_loopg [3, 11] k (fun kq v3 v11 w' => ∃ (x3_1 : List ByteArray) (x11_1 : Int), v11 = .int .i64 x11_1 ∧ Aside0 (comm_Texts.l0 kq x3_1 l0 (l0.length : Int) x11_1 = some r) ∧ Aside0 (kq ≤ k) ∧ Aside0 (Kd.R Kd.string 9 w' w.heap.size (fun _ => True) v3 x3_1) ∧ Aside0 (Below w.heap.size w w'))
  case atStart => exact ⟨(([] : List ByteArray)), (0), (by first | rfl | (simp; done) | (simp [*]; done)), H', ⟨Nat.le_refl _⟩, ⟨by first | exact Kd.R_nil _ _ _ _ _ | exact Kd.N_nil _ _ _ _ _ | exact Kd.V_nil _ _ _ _ _ | exact Kd.Q_nil _ _ _ _ _ | exact Kd.S_nil _ _ _ _ _⟩, ⟨by repeat (first | (with_reducible first | exact HB.out | apply below_alloc | apply pw_below_drewN | apply below_drew1) | exact HB.out)⟩⟩
  case round =>
   clear H'
   try clear p2
   try clear c3
   try clear c4
   obtain ⟨x3_1, x11_1, rfl, HA, HK1, HO_3, HB⟩ := hrel
   cases gk with
   | zero => exact absurd HA.out (by simp [comm_Texts.l0])
   | succ k1 =>
    have H := HA.out
    clear HA
    simp only [comm_Texts.l0] at H
    by_cases c5 : x11_1 < (l0.length : Int)
    ·rw [if_pos c5] at H
     have c5b0 : decide (x11_1 < (l0.length : Int)) = true := decide_eq_true c5
     clear c5
     by_cases c6 : 0 ≤ x11_1
     ·rw [if_pos c6] at H
      have c6b0 : decide (0 ≤ x11_1) = true := decide_eq_true c6
      clear c6
      by_cases c7 : x11_1 < (l0.length : Int)
      ·rw [if_pos c7] at H
       have c7b0 : decide (x11_1 < (l0.length : Int)) = true := decide_eq_true c7
       clear c7
       replace H := Option.bind_eq_some_iff.mp H
       obtain ⟨t153, A80, H⟩ := H
       (try dsimp only at H)
       have A8 := Aside0.mk A80
       clear A80
       by_cases c9 : x3_1.length < 8796093022208
       ·rw [if_pos c9] at H
        have LMc9 := Aside0.mk c9
        clear c9
        obtain ⟨y154, hy154⟩ : ∃ y_ : List ByteArray, y_ = (x3_1 ++ [t153]) := ⟨_, rfl⟩
        replace H : (comm_Texts.l0 k1 y154 l0 (l0.length : Int) (wrap64 (x11_1 + 1))) = some r := by first | (rw [hy154]; with_reducible exact H) | (have H2_ := (Option.bind_some _ _).symm.trans H; rw [hy154]; with_reducible exact H2_) | (have H2_ := (Option.bind_some _ _).symm.trans H; with_reducible exact H2_) | with_reducible exact H | (rw [hy154]; exact H) | exact H
        have Ny154 := Aside0.mk hy154
        clear hy154
        have H' := Aside0.mk H
        clear H
        have p151 : 0 ≤ (x11_1 : Int) := of_decide_eq_true (by first | (with_reducible assumption) | assumption)
        have q151 : x11_1 < (l0.length : Int) := of_decide_eq_true (by first | (with_reducible assumption) | assumption)
        obtain ⟨ad151, e151, hx151_0, hx151_1⟩ := at_T63 HR0.out x11_1 p151 q151
        cases e151
        replace hx151_0 := (HB.out.cell (World.block_lt_of_cell? w _ hx151_0)).trans hx151_0
        replace hx151_1 := (HB.out.cell (World.block_lt_of_cell? w _ hx151_1)).trans hx151_1
        replace p151 := eq_true p151
        replace q151 := eq_true q151
        go_wp2_with (first | ((with_reducible refine gate_dst (N := 5) rfl ?_); refine box_event ?hg (N := 5) ?hd (cs := #[.int .i64 0, .int .i64 0]) (t := 63) ?hr ?_; (case hd => rfl); (case hg => rfl); (case hr => first | (go_simp; done) | (go_simp; rfl)); intro ab hg w10 hbox hb; have n0_ := Aside0.mk (Kd.R_below (by (with_reducible repeat (first | apply Kd.R_alloc | apply Kd.R_drewN | apply Kd.R_drew)); exact HO_3.out) hb); have n1_ := Aside0.mk (below_step (by repeat (first | (with_reducible first | exact HB.out | apply below_alloc | apply pw_below_drewN | apply below_drew1) | exact HB.out)) hb); have n2_ := Aside0.mk (hbox); have n3_ := Aside0.mk ((by rw [hg]; exact (below_size (by repeat (first | (with_reducible first | exact HB.out | apply below_alloc | apply pw_below_drewN | apply below_drew1) | exact HB.out))) : w.heap.size ≤ ab)); have n4_ := Aside0.mk ((by rw [hg]; exact (below_size (by repeat (first | (with_reducible first | exact HB.out | apply below_alloc | apply pw_below_drewN | apply below_drew1) | exact HB.out))) : w.heap.size ≤ ab)); clear HO_3; clear HB; have HO_3 := n0_; have HB := n1_; have aa := n2_; have GW152 := n3_; have GE152 := n4_; clear n0_ n1_ n2_ n3_ n4_; clear hb hbox hg; have hcz11_0 : w10.cell? ⟨ab, 0, none⟩ = some (.int .i64 0) := (blk_cell aa.out 0).trans rfl; have hcz11_1 : w10.cell? ⟨ab, 1, none⟩ = some (.int .i64 0) := (blk_cell aa.out 1).trans rfl; have hfz11_0 := blk_frozen aa.out 0; have hfz11_1 := blk_frozen aa.out 1) | ((with_reducible refine gate_callee (f := 66) rfl ?_); refine goesL_ (some 17) rfl rfl Try.func66 (by kernel_rfl) rfl #[.agg #[.int .i64 ((rd_T63 l0 x11_1).f0), .int .i64 ((rd_T63 l0 x11_1).f1)]] rfl (by (try simp only [List.map_toArray, List.map_cons, List.map_nil]); first | done | rfl) ?_; (with_reducible refine (comm_Text.calls ((rd_T63 l0 x11_1).f0) ((rd_T63 l0 x11_1).f1) t153 _ A8.out).mono ?_); rintro e w12 ⟨rfl, hb⟩; refine ⟨_, rfl, ?_⟩; replace HO_3 := Aside0.mk (Kd.R_below (by (with_reducible repeat (first | apply Kd.R_alloc | apply Kd.R_drewN | apply Kd.R_drew)); exact (Kd.R_mono (Kd.R_far (p := ⟨ab, 1, none⟩) (Kd.R_far (p := ⟨ab, 0, none⟩) (Kd.R_types HO_3.out aa.out (by decide)) (fun _ hk => hk.2) (.int .i64 ((rd_T63 l0 x11_1).f0))) (fun _ hk => hk.2) (.int .i64 ((rd_T63 l0 x11_1).f1))) (fun _ h_ => h_.1))) hb); replace aa := Aside0.mk (blk_below (g := ab) (o := .cells #[.int .i64 ((rd_T63 l0 x11_1).f0), .int .i64 ((rd_T63 l0 x11_1).f1)] 63 (0, 0)) (by (with_reducible repeat (first | refine blk_drewN ?_ _ | refine blk_drew ?_ | refine blk_alloc ?_ _)); refine blk_put (cs := #[.int .i64 ((rd_T63 l0 x11_1).f0), .int .i64 0]) ?_ 1 _ rfl; (with_reducible repeat (first | refine blk_drewN ?_ _ | refine blk_drew ?_ | refine blk_alloc ?_ _)); refine blk_put (cs := #[.int .i64 0, .int .i64 0]) ?_ 0 _ rfl; (with_reducible repeat (first | refine blk_drewN ?_ _ | refine blk_drew ?_ | refine blk_alloc ?_ _)); exact aa.out) hb); replace HB := Aside0.mk (below_step (by repeat (first | (with_reducible first | exact HB.out | apply below_alloc | apply pw_below_drewN | apply below_drew1 | refine below_set ?_ GE152.out) | exact HB.out)) hb); (try clear hb); (try clear hb2); (try clear hk); (try clear hi)) | ((with_reducible refine gate_builtin (b := .append) (xs := #[.tmp 15, .tmp 18]) rfl ?_); at_builtin; refine Kd.R_append Kd.string (w0 := w) w.heap.size rfl (.tmp 15) (.tmp 18) 52 9 (.string ⟨#[]⟩) 16 rfl Try.underlying52 info9 rfl (by decide) (by omega) u3 x3_1 t153 [.string t153] (fun _ => True) (fun _ => False) rfl rfl ?aP (fun _ hk => hk.elim) ?aF ?aO ?aB ?aS ?aL ?_; (case aP => exact rfl); (case aB => exact (by repeat (first | (with_reducible first | exact HB.out | apply below_alloc | apply pw_below_drewN | apply below_drew1 | refine below_set ?_ GE152.out) | exact HB.out))); (case aF => exact (fun _ _ => trivial)); (case aO => exact (by (with_reducible repeat (first | apply Kd.R_alloc | apply Kd.R_drewN | apply Kd.R_drew)); exact HO_3.out)); (case aS => exact (below_size (by repeat (first | (with_reducible first | exact HB.out | apply below_alloc | apply pw_below_drewN | apply below_drew1 | refine below_set ?_ GE152.out) | exact HB.out)))); (case aL => have := LMc9.out; omega); intro v155 w13 ho hb hg hat; rw [← Ny154.out] at ho; replace aa := Aside0.mk (blk_grown (g := ab) (o := .cells #[.int .i64 ((rd_T63 l0 x11_1).f0), .int .i64 ((rd_T63 l0 x11_1).f1)] 63 (0, 0)) (by (with_reducible repeat (first | refine blk_drewN ?_ _ | refine blk_drew ?_ | refine blk_alloc ?_ _)); exact aa.out) hg (Kd.R_ne HO_3.out aa.out (by decide))); replace HB := Aside0.mk (hb); have HO156 := Aside0.mk (ho); clear HO_3; clear ho hb hg hat))
        go_roundg k1
        case measure => have := HK1.out; omega
        case rel => exact ⟨(y154), (wrap64 (x11_1 + 1)), (by first | rfl | (simp; done) | (simp [*]; done)), H', ⟨by have := HK1.out; omega⟩, ⟨by (with_reducible repeat (first | apply Kd.R_alloc | apply Kd.R_drewN | apply Kd.R_drew)); exact HO156.out⟩, ⟨by repeat (first | (with_reducible first | exact HB.out | apply below_alloc | apply pw_below_drewN | apply below_drew1 | refine below_set ?_ GE152.out) | exact HB.out)⟩⟩
       ·rw [if_neg c9] at H
        exact absurd H (by simp)
      ·rw [if_neg c7] at H
       exact absurd H (by simp)
     ·rw [if_neg c6] at H
      exact absurd H (by simp)
    ·rw [if_neg c5] at H
     have c5b0 : decide (x11_1 < (l0.length : Int)) = false := decide_eq_false c5
     clear c5
     replace H := Option.bind_eq_some_iff.mp H
     obtain ⟨t157, A140, H⟩ := H
     replace H : (some t157) = some r := H
     have A14 := Aside0.mk A140
     clear A140
     obtain rfl := Option.some.inj H
     obtain ⟨Ao15, co15, eo15⟩ := Kd.R_slice HO_3.out
     subst eo15
     go_wp2_with (first | ((with_reducible refine gate_callee (f := 40) rfl ?_); refine goesL_ (some 22) rfl rfl Try.func40 (by kernel_rfl) rfl #[.slice Ao15 x3_1.length co15, .string (⟨#[32]⟩ : ByteArray)] rfl (by (try simp only [List.map_toArray, List.map_cons, List.map_nil]); first | done | rfl) ?_; (with_reducible refine (strings_Join.calls _ _ x3_1 (⟨#[32]⟩ : ByteArray) t157 _ ?side1 ?side2 A14.out).mono ?_); (case side1 => repeat (first | exact (Kd.R_reads' HO_3.out).2.2 | (with_reducible refine Kd.C_alloc ?_ _) | (with_reducible refine Kd.C_drewN ?_ _) | (with_reducible refine Kd.C_drew ?_))); (case side2 => exact (Kd.R_reads' HO_3.out).2.1); rintro e w16 ⟨rfl, hb⟩; refine ⟨_, rfl, ?_⟩; replace HO_3 := Aside0.mk (Kd.R_below (by (with_reducible repeat (first | apply Kd.R_alloc | apply Kd.R_drewN | apply Kd.R_drew)); exact HO_3.out) hb); replace HB := Aside0.mk (below_step (by repeat (first | (with_reducible first | exact HB.out | apply below_alloc | apply pw_below_drewN | apply below_drew1) | exact HB.out)) hb); (try clear hb); (try clear hb2); (try clear hk); (try clear hi)))
     go_ret
     exact ⟨by first | rfl | (simp [errW_none, errW_some] <;> rfl) | (simp [*, errW_none, errW_some] <;> rfl), by repeat (first | (with_reducible first | exact HB.out | apply below_alloc | apply pw_below_drewN | apply below_drew1) | exact HB.out)⟩
 ·replace c3 := Bool.eq_false_iff.mpr c3
  subst c3
  have H1 : (some (⟨#[]⟩ : ByteArray)) = some r := by rw [if_neg (show ¬ (false = true) by decide)] at H; exact H
  clear H
  have H := H1
  clear H1
  obtain rfl := Option.some.inj H
  go_enter Try.func39, Try.ntmps39
  go_wp2_with (first | ((with_reducible refine gate_callee (f := 42) rfl ?_); refine goesL_ (some 7) rfl rfl Try.func42 (by kernel_rfl) rfl #[.slice A0 l0.length c0] rfl (by (try simp only [List.map_toArray, List.map_cons, List.map_nil]); first | done | rfl) ?_; (with_reducible refine (comm_Set.calls k _ _ l0 false _ ?side1 ?side2 A2.out).mono ?_); (case side1 => repeat (first | exact HR0.out | (with_reducible refine Kd.C_alloc ?_ _) | (with_reducible refine Kd.C_drewN ?_ _) | (with_reducible refine Kd.C_drew ?_))); (case side2 => exact HC0.out); rintro e w17 ⟨rfl, hb⟩; refine ⟨_, rfl, ?_⟩; replace HB := Aside0.mk (below_step (by repeat (first | (with_reducible first | exact HB.out | apply below_alloc | apply pw_below_drewN | apply below_drew1) | exact HB.out)) hb); (try clear hb); (try clear hb2); (try clear hk); (try clear hi)))
  go_ret
  exact ⟨by first | rfl | (simp [errW_none, errW_some] <;> rfl) | (simp [*, errW_none, errW_some] <;> rfl), by repeat (first | (with_reducible first | exact HB.out | apply below_alloc | apply pw_below_drewN | apply below_drew1) | exact HB.out)⟩

/-! ### attr_Text: function 14 -/
mutual
def attr_Text.j0 : Nat → ByteArray → Int → Int → Int → List Int → List (S63) → Int → List Int → Option (ByteArray)
  | 0, _, _, _, _, _, _, _, _ => none
  | k + 1, x3, x159000, x159001, x159002, x159003, x159004, x159005, x159006 => if (x159006.length : Int) > 0 then (attr_Text.l0 k x3 ([] : List ByteArray) x159006 (x159006.length : Int) 0) else (some x3)
def attr_Text.l0 : Nat → ByteArray → List ByteArray → List Int → Int → Int → Option (ByteArray)
  | 0, _, _, _, _, _ => none
  | k + 1, x3, x4, x51, x52, x53 => if x53 < x52 then (if 0 ≤ x53 then (if x53 < (x51.length : Int) then ((attr_digits.f (rd x51 x53)).bind fun t170 => (if x4.length < 8796093022208 then (attr_Text.l0 k x3 (x4 ++ [t170]) x51 x52 (wrap64 (x53 + 1))) else (none))) else (none)) else (none)) else ((strings_Join.f x4 (⟨#[32]⟩ : ByteArray)).bind fun t174 => (if 11 + t174.size ≤ 9223372036854775807 then (if ((⟨#[32, 99, 108, 117, 115, 116, 101, 114, 115, 32, 91]⟩ : ByteArray) ++ t174).size + 1 ≤ 9223372036854775807 then (if x3.size + (((⟨#[32, 99, 108, 117, 115, 116, 101, 114, 115, 32, 91]⟩ : ByteArray) ++ t174) ++ (⟨#[93]⟩ : ByteArray)).size ≤ 9223372036854775807 then (some (x3 ++ (((⟨#[32, 99, 108, 117, 115, 116, 101, 114, 115, 32, 91]⟩ : ByteArray) ++ t174) ++ (⟨#[93]⟩ : ByteArray)))) else (none)) else (none)) else (none)))
end
def attr_Text.f (k : Nat) (a0_0 : Int) (a0_1 : Int) (a0_2 : Int) (l0_3 : List Int) (l0_4 : List (S63)) (a0_5 : Int) (l0_6 : List Int) : Option (ByteArray) := (attr_May.f k a0_0 a0_1 a0_2 l0_3 l0_4 a0_5 l0_6).bind fun t159 => (if t159 = true then ((attr_digits.f a0_0).bind fun t160 => (if 5 + t160.size ≤ 9223372036854775807 then (if ((⟨#[112, 114, 101, 102, 32]⟩ : ByteArray) ++ t160).size + 5 ≤ 9223372036854775807 then ((attr_digits.f a0_1).bind fun t161 => (if (((⟨#[112, 114, 101, 102, 32]⟩ : ByteArray) ++ t160) ++ (⟨#[32, 109, 101, 100, 32]⟩ : ByteArray)).size + t161.size ≤ 9223372036854775807 then (if ((((⟨#[112, 114, 101, 102, 32]⟩ : ByteArray) ++ t160) ++ (⟨#[32, 109, 101, 100, 32]⟩ : ByteArray)) ++ t161).size + 8 ≤ 9223372036854775807 then ((some (([(⟨#[105, 103, 112]⟩ : ByteArray), (⟨#[101, 103, 112]⟩ : ByteArray), (⟨#[110, 111, 110, 101]⟩ : ByteArray)] : List ByteArray) : List ByteArray)).bind fun y162 => (if 0 ≤ a0_2 then (if a0_2 < (y162.length : Int) then (if (((((⟨#[112, 114, 101, 102, 32]⟩ : ByteArray) ++ t160) ++ (⟨#[32, 109, 101, 100, 32]⟩ : ByteArray)) ++ t161) ++ (⟨#[32, 111, 114, 105, 103, 105, 110, 32]⟩ : ByteArray)).size + (rdOf ByteArray.empty y162 a0_2).size ≤ 9223372036854775807 then (if ((((((⟨#[112, 114, 101, 102, 32]⟩ : ByteArray) ++ t160) ++ (⟨#[32, 109, 101, 100, 32]⟩ : ByteArray)) ++ t161) ++ (⟨#[32, 111, 114, 105, 103, 105, 110, 32]⟩ : ByteArray)) ++ (rdOf ByteArray.empty y162 a0_2)).size + 7 ≤ 9223372036854775807 then ((aspath_Text.f k l0_3).bind fun t166 => (if (((((((⟨#[112, 114, 101, 102, 32]⟩ : ByteArray) ++ t160) ++ (⟨#[32, 109, 101, 100, 32]⟩ : ByteArray)) ++ t161) ++ (⟨#[32, 111, 114, 105, 103, 105, 110, 32]⟩ : ByteArray)) ++ (rdOf ByteArray.empty y162 a0_2)) ++ (⟨#[32, 112, 97, 116, 104, 32, 91]⟩ : ByteArray)).size + t166.size ≤ 9223372036854775807 then (if ((((((((⟨#[112, 114, 101, 102, 32]⟩ : ByteArray) ++ t160) ++ (⟨#[32, 109, 101, 100, 32]⟩ : ByteArray)) ++ t161) ++ (⟨#[32, 111, 114, 105, 103, 105, 110, 32]⟩ : ByteArray)) ++ (rdOf ByteArray.empty y162 a0_2)) ++ (⟨#[32, 112, 97, 116, 104, 32, 91]⟩ : ByteArray)) ++ t166).size + 9 ≤ 9223372036854775807 then ((comm_Texts.f k l0_4).bind fun t167 => (if (((((((((⟨#[112, 114, 101, 102, 32]⟩ : ByteArray) ++ t160) ++ (⟨#[32, 109, 101, 100, 32]⟩ : ByteArray)) ++ t161) ++ (⟨#[32, 111, 114, 105, 103, 105, 110, 32]⟩ : ByteArray)) ++ (rdOf ByteArray.empty y162 a0_2)) ++ (⟨#[32, 112, 97, 116, 104, 32, 91]⟩ : ByteArray)) ++ t166) ++ (⟨#[93, 32, 99, 111, 109, 109, 115, 32, 91]⟩ : ByteArray)).size + t167.size ≤ 9223372036854775807 then (if ((((((((((⟨#[112, 114, 101, 102, 32]⟩ : ByteArray) ++ t160) ++ (⟨#[32, 109, 101, 100, 32]⟩ : ByteArray)) ++ t161) ++ (⟨#[32, 111, 114, 105, 103, 105, 110, 32]⟩ : ByteArray)) ++ (rdOf ByteArray.empty y162 a0_2)) ++ (⟨#[32, 112, 97, 116, 104, 32, 91]⟩ : ByteArray)) ++ t166) ++ (⟨#[93, 32, 99, 111, 109, 109, 115, 32, 91]⟩ : ByteArray)) ++ t167).size + 1 ≤ 9223372036854775807 then (if a0_5 > 0 then ((attr_digits.f a0_5).bind fun t168 => (if 6 + t168.size ≤ 9223372036854775807 then (if (((((((((((⟨#[112, 114, 101, 102, 32]⟩ : ByteArray) ++ t160) ++ (⟨#[32, 109, 101, 100, 32]⟩ : ByteArray)) ++ t161) ++ (⟨#[32, 111, 114, 105, 103, 105, 110, 32]⟩ : ByteArray)) ++ (rdOf ByteArray.empty y162 a0_2)) ++ (⟨#[32, 112, 97, 116, 104, 32, 91]⟩ : ByteArray)) ++ t166) ++ (⟨#[93, 32, 99, 111, 109, 109, 115, 32, 91]⟩ : ByteArray)) ++ t167) ++ (⟨#[93]⟩ : ByteArray)).size + ((⟨#[32, 102, 114, 111, 109, 32]⟩ : ByteArray) ++ t168).size ≤ 9223372036854775807 then (attr_Text.j0 k ((((((((((((⟨#[112, 114, 101, 102, 32]⟩ : ByteArray) ++ t160) ++ (⟨#[32, 109, 101, 100, 32]⟩ : ByteArray)) ++ t161) ++ (⟨#[32, 111, 114, 105, 103, 105, 110, 32]⟩ : ByteArray)) ++ (rdOf ByteArray.empty y162 a0_2)) ++ (⟨#[32, 112, 97, 116, 104, 32, 91]⟩ : ByteArray)) ++ t166) ++ (⟨#[93, 32, 99, 111, 109, 109, 115, 32, 91]⟩ : ByteArray)) ++ t167) ++ (⟨#[93]⟩ : ByteArray)) ++ ((⟨#[32, 102, 114, 111, 109, 32]⟩ : ByteArray) ++ t168)) a0_0 a0_1 a0_2 l0_3 l0_4 a0_5 l0_6) else (none)) else (none))) else (attr_Text.j0 k (((((((((((⟨#[112, 114, 101, 102, 32]⟩ : ByteArray) ++ t160) ++ (⟨#[32, 109, 101, 100, 32]⟩ : ByteArray)) ++ t161) ++ (⟨#[32, 111, 114, 105, 103, 105, 110, 32]⟩ : ByteArray)) ++ (rdOf ByteArray.empty y162 a0_2)) ++ (⟨#[32, 112, 97, 116, 104, 32, 91]⟩ : ByteArray)) ++ t166) ++ (⟨#[93, 32, 99, 111, 109, 109, 115, 32, 91]⟩ : ByteArray)) ++ t167) ++ (⟨#[93]⟩ : ByteArray)) a0_0 a0_1 a0_2 l0_3 l0_4 a0_5 l0_6)) else (none)) else (none))) else (none)) else (none))) else (none)) else (none)) else (none)) else (none))) else (none)) else (none))) else (none)) else (none))) else (some (⟨#[]⟩ : ByteArray)))
theorem attr_Text.mono_l : ∀ k, (∀ y0 y1 y2 y3 y4 y5 y6 y7, LeO (attr_Text.j0 k y0 y1 y2 y3 y4 y5 y6 y7) (attr_Text.j0 (k + 1) y0 y1 y2 y3 y4 y5 y6 y7)) ∧ (∀ y0 y1 y2 y3 y4, LeO (attr_Text.l0 k y0 y1 y2 y3 y4) (attr_Text.l0 (k + 1) y0 y1 y2 y3 y4))
  | 0 => ⟨fun _ _ _ _ _ _ _ _ r h => by simp [attr_Text.j0] at h, fun _ _ _ _ _ r h => by simp [attr_Text.l0] at h⟩
  | k + 1 => by
    obtain ⟨ih0, ih1⟩ := attr_Text.mono_l k
    refine ⟨?_, ?_⟩
    · intro y0 y1 y2 y3 y4 y5 y6 y7
      unfold attr_Text.j0
      repeat' first
      | (with_reducible exact ih0 _ _ _ _ _ _ _ _)
      | (with_reducible exact ih1 _ _ _ _ _)
      | (with_reducible exact aspath_Text.mono _ _)
      | (with_reducible exact attr_May.mono _ _ _ _ _ _ _ _)
      | (with_reducible exact comm_Texts.mono _ _)
      | (with_reducible exact LeO.refl _)
      | (with_reducible exact LeO.none _)
      | (with_reducible refine LeO.ite ?_ ?_)
      | (with_reducible refine LeO.bind ?_ (fun _ => ?_))
      | exact ih0 _ _ _ _ _ _ _ _
      | exact ih1 _ _ _ _ _
      | exact aspath_Text.mono _ _
      | exact attr_May.mono _ _ _ _ _ _ _ _
      | exact comm_Texts.mono _ _
      | exact LeO.none _
      | refine LeO.ite ?_ ?_
      | refine LeO.bind ?_ (fun _ => ?_)
    · intro y0 y1 y2 y3 y4
      unfold attr_Text.l0
      repeat' first
      | (with_reducible exact ih0 _ _ _ _ _ _ _ _)
      | (with_reducible exact ih1 _ _ _ _ _)
      | (with_reducible exact aspath_Text.mono _ _)
      | (with_reducible exact attr_May.mono _ _ _ _ _ _ _ _)
      | (with_reducible exact comm_Texts.mono _ _)
      | (with_reducible exact LeO.refl _)
      | (with_reducible exact LeO.none _)
      | (with_reducible refine LeO.ite ?_ ?_)
      | (with_reducible refine LeO.bind ?_ (fun _ => ?_))
      | exact ih0 _ _ _ _ _ _ _ _
      | exact ih1 _ _ _ _ _
      | exact aspath_Text.mono _ _
      | exact attr_May.mono _ _ _ _ _ _ _ _
      | exact comm_Texts.mono _ _
      | exact LeO.none _
      | refine LeO.ite ?_ ?_
      | refine LeO.bind ?_ (fun _ => ?_)
theorem attr_Text.mono : ∀ a0 a1 a2 a3 a4 a5 a6 k, LeO (attr_Text.f k a0 a1 a2 a3 a4 a5 a6) (attr_Text.f (k + 1) a0 a1 a2 a3 a4 a5 a6) := by
  intro a0 a1 a2 a3 a4 a5 a6 k
  obtain ⟨ih0, ih1⟩ := attr_Text.mono_l k
  unfold attr_Text.f
  repeat' first
      | (with_reducible exact ih0 _ _ _ _ _ _ _ _)
      | (with_reducible exact ih1 _ _ _ _ _)
      | (with_reducible exact aspath_Text.mono _ _)
      | (with_reducible exact attr_May.mono _ _ _ _ _ _ _ _)
      | (with_reducible exact comm_Texts.mono _ _)
      | (with_reducible exact LeO.refl _)
      | (with_reducible exact LeO.none _)
      | (with_reducible refine LeO.ite ?_ ?_)
      | (with_reducible refine LeO.bind ?_ (fun _ => ?_))
      | exact ih0 _ _ _ _ _ _ _ _
      | exact ih1 _ _ _ _ _
      | exact aspath_Text.mono _ _
      | exact attr_May.mono _ _ _ _ _ _ _ _
      | exact comm_Texts.mono _ _
      | exact LeO.none _
      | refine LeO.ite ?_ ?_
      | refine LeO.bind ?_ (fun _ => ?_)
def attr_Text.T3 : Bool × List (List Nat × List Nat) := (true, [([], []), ([0], [0]), ([1], [1]), ([2], [2]), ([3], [3]), ([], []), ([5], [5]), ([6, 2], [6]), ([4, 7], [4, 7]), ([8], [8]), ([], []), ([], []), ([11], [11]), ([10, 12], [10, 12]), ([13], [13]), ([9, 14], [9, 14]), ([15], [15]), ([], []), ([17], [17]), ([18, 7], [18]), ([16, 19], [16, 19]), ([20], [20]), ([], []), ([22], [22]), ([23, 19], [23]), ([21, 24], [21, 24]), ([25], [25]), ([26, 24, 0, 1, 2, 3, 4, 5, 6, 7, 8, 9, 10, 11, 12, 13, 14, 15, 16, 17, 18, 19, 20, 21, 22, 23, 24, 25, 26], [26])])
def attr_Text.B3 : List Nat := [0, 1, 3, 7, 15, 0, 32, 103, 255, 511, 0, 0, 2048, 7168, 15360, 32767, 65535, 0, 131072, 393447, 1048575, 2097151, 0, 4194304, 13500647, 33554431, 67108863, 134217727]
theorem attr_Text.tab3 : rtab .any (opsOf Try.f14 3) = attr_Text.T3 := by kernel_rfl
theorem attr_Text.bits3 : waitsOk attr_Text.T3.2 attr_Text.B3 = true := by kernel_rfl
set_option maxHeartbeats 8000000 in
set_option maxRecDepth 100000 in
theorem attr_Text.calls (k : Nat) (aj : Int) (ak : Int) (ac : Int) (al : Option Addr) (am : Nat) (ag : List Int) (an : Option Addr) (ao : Nat) (ah : List (S63)) (ai : Int) (ar : Option Addr) (aq : Nat) (ae : List Int) (r : ByteArray) (w : World) (hr0_3 : Kd.C (Kd.int .i64) w al ag.length ag) (hc0_3 : ag.length ≤ am) (hr0_4 : Kd.C k63 w an ah.length ah) (hc0_4 : ah.length ≤ ao) (hr0_6 : Kd.C (Kd.int .i64) w ar ae.length ae) (hc0_6 : ae.length ≤ aq) (h : attr_Text.f k aj ak ac ag ah ai ae = some r) :
  Calls Try.prog 14 #[.agg #[.int .i64 aj, .int .i64 ak, .int .i64 ac, .slice al ag.length am, .slice an ah.length ao, .int .i64 ai, .slice ar ae.length aq]] w fun e w' => e = .returned (.string r) ∧ Below w.heap.size w w' := by
 have hu30 := Try.underlying30
 have HR0_3 := Aside0.mk hr0_3
 have HC0_3 := Aside0.mk hc0_3
 clear hr0_3 hc0_3
 have HR0_4 := Aside0.mk hr0_4
 have HC0_4 := Aside0.mk hc0_4
 clear hr0_4 hc0_4
 have HR0_6 := Aside0.mk hr0_6
 have HC0_6 := Aside0.mk hc0_6
 clear hr0_6 hc0_6
 have HB := Aside0.mk (Below.refl w.heap.size w)
 have H := h
 unfold attr_Text.f at H
 clear h
 replace H := Option.bind_eq_some_iff.mp H
 obtain ⟨t159, A20, H⟩ := H
 (try dsimp only at H)
 have A2 := Aside0.mk A20
 clear A20
 by_cases c3 : t159 = true
 ·subst c3
  have H1 := H
  rw [if_pos rfl] at H1
  clear H
  have H := H1
  clear H1
  replace H := Option.bind_eq_some_iff.mp H
  obtain ⟨t160, A40, H⟩ := H
  (try dsimp only at H)
  have A4 := Aside0.mk A40
  clear A40
  by_cases c5 : 5 + t160.size ≤ 9223372036854775807
  ·rw [if_pos c5] at H
   have c5b0 := eq_true c5
   have c5b1 : decide (5 + t160.size ≤ 9223372036854775807) = true := decide_eq_true c5
   try have c5b2 : (9223372036854775807 < 5 + t160.size) = False := eq_false (Nat.not_lt.2 c5)
   by_cases c6 : ((⟨#[112, 114, 101, 102, 32]⟩ : ByteArray) ++ t160).size + 5 ≤ 9223372036854775807
   ·rw [if_pos c6] at H
    have c6b0 := eq_true c6
    have c6b1 : decide (((⟨#[112, 114, 101, 102, 32]⟩ : ByteArray) ++ t160).size + 5 ≤ 9223372036854775807) = true := decide_eq_true c6
    try have c6b2 : (9223372036854775807 < ((⟨#[112, 114, 101, 102, 32]⟩ : ByteArray) ++ t160).size + 5) = False := eq_false (Nat.not_lt.2 c6)
    try have c6b3 : (9223372036854775807 < 5 + t160.size + 5) = False := eq_false (Nat.not_lt.2 (by have h_ := c6; simp only [ByteArray.size_append] at h_; exact h_))
    replace H := Option.bind_eq_some_iff.mp H
    obtain ⟨t161, A70, H⟩ := H
    (try dsimp only at H)
    have A7 := Aside0.mk A70
    clear A70
    by_cases c8 : (((⟨#[112, 114, 101, 102, 32]⟩ : ByteArray) ++ t160) ++ (⟨#[32, 109, 101, 100, 32]⟩ : ByteArray)).size + t161.size ≤ 9223372036854775807
    ·rw [if_pos c8] at H
     have c8b0 := eq_true c8
     have c8b1 : decide ((((⟨#[112, 114, 101, 102, 32]⟩ : ByteArray) ++ t160) ++ (⟨#[32, 109, 101, 100, 32]⟩ : ByteArray)).size + t161.size ≤ 9223372036854775807) = true := decide_eq_true c8
     try have c8b2 : (9223372036854775807 < (((⟨#[112, 114, 101, 102, 32]⟩ : ByteArray) ++ t160) ++ (⟨#[32, 109, 101, 100, 32]⟩ : ByteArray)).size + t161.size) = False := eq_false (Nat.not_lt.2 c8)
     try have c8b3 : (9223372036854775807 < 5 + t160.size + 5 + t161.size) = False := eq_false (Nat.not_lt.2 (by have h_ := c8; simp only [ByteArray.size_append] at h_; exact h_))
     by_cases c9 : ((((⟨#[112, 114, 101, 102, 32]⟩ : ByteArray) ++ t160) ++ (⟨#[32, 109, 101, 100, 32]⟩ : ByteArray)) ++ t161).size + 8 ≤ 9223372036854775807
     ·rw [if_pos c9] at H
      have c9b0 := eq_true c9
      have c9b1 : decide (((((⟨#[112, 114, 101, 102, 32]⟩ : ByteArray) ++ t160) ++ (⟨#[32, 109, 101, 100, 32]⟩ : ByteArray)) ++ t161).size + 8 ≤ 9223372036854775807) = true := decide_eq_true c9
      try have c9b2 : (9223372036854775807 < ((((⟨#[112, 114, 101, 102, 32]⟩ : ByteArray) ++ t160) ++ (⟨#[32, 109, 101, 100, 32]⟩ : ByteArray)) ++ t161).size + 8) = False := eq_false (Nat.not_lt.2 c9)
      try have c9b3 : (9223372036854775807 < 5 + t160.size + 5 + t161.size + 8) = False := eq_false (Nat.not_lt.2 (by have h_ := c9; simp only [ByteArray.size_append] at h_; exact h_))
      obtain ⟨ad, hy162⟩ : ∃ y_ : List ByteArray, y_ = (([(⟨#[105, 103, 112]⟩ : ByteArray), (⟨#[101, 103, 112]⟩ : ByteArray), (⟨#[110, 111, 110, 101]⟩ : ByteArray)] : List ByteArray)) := ⟨_, rfl⟩
      replace H : (if 0 ≤ ac then (if ac < (ad.length : Int) then (if (((((⟨#[112, 114, 101, 102, 32]⟩ : ByteArray) ++ t160) ++ (⟨#[32, 109, 101, 100, 32]⟩ : ByteArray)) ++ t161) ++ (⟨#[32, 111, 114, 105, 103, 105, 110, 32]⟩ : ByteArray)).size + (rdOf ByteArray.empty ad ac).size ≤ 9223372036854775807 then (if ((((((⟨#[112, 114, 101, 102, 32]⟩ : ByteArray) ++ t160) ++ (⟨#[32, 109, 101, 100, 32]⟩ : ByteArray)) ++ t161) ++ (⟨#[32, 111, 114, 105, 103, 105, 110, 32]⟩ : ByteArray)) ++ (rdOf ByteArray.empty ad ac)).size + 7 ≤ 9223372036854775807 then ((aspath_Text.f k ag).bind fun t166 => (if (((((((⟨#[112, 114, 101, 102, 32]⟩ : ByteArray) ++ t160) ++ (⟨#[32, 109, 101, 100, 32]⟩ : ByteArray)) ++ t161) ++ (⟨#[32, 111, 114, 105, 103, 105, 110, 32]⟩ : ByteArray)) ++ (rdOf ByteArray.empty ad ac)) ++ (⟨#[32, 112, 97, 116, 104, 32, 91]⟩ : ByteArray)).size + t166.size ≤ 9223372036854775807 then (if ((((((((⟨#[112, 114, 101, 102, 32]⟩ : ByteArray) ++ t160) ++ (⟨#[32, 109, 101, 100, 32]⟩ : ByteArray)) ++ t161) ++ (⟨#[32, 111, 114, 105, 103, 105, 110, 32]⟩ : ByteArray)) ++ (rdOf ByteArray.empty ad ac)) ++ (⟨#[32, 112, 97, 116, 104, 32, 91]⟩ : ByteArray)) ++ t166).size + 9 ≤ 9223372036854775807 then ((comm_Texts.f k ah).bind fun t167 => (if (((((((((⟨#[112, 114, 101, 102, 32]⟩ : ByteArray) ++ t160) ++ (⟨#[32, 109, 101, 100, 32]⟩ : ByteArray)) ++ t161) ++ (⟨#[32, 111, 114, 105, 103, 105, 110, 32]⟩ : ByteArray)) ++ (rdOf ByteArray.empty ad ac)) ++ (⟨#[32, 112, 97, 116, 104, 32, 91]⟩ : ByteArray)) ++ t166) ++ (⟨#[93, 32, 99, 111, 109, 109, 115, 32, 91]⟩ : ByteArray)).size + t167.size ≤ 9223372036854775807 then (if ((((((((((⟨#[112, 114, 101, 102, 32]⟩ : ByteArray) ++ t160) ++ (⟨#[32, 109, 101, 100, 32]⟩ : ByteArray)) ++ t161) ++ (⟨#[32, 111, 114, 105, 103, 105, 110, 32]⟩ : ByteArray)) ++ (rdOf ByteArray.empty ad ac)) ++ (⟨#[32, 112, 97, 116, 104, 32, 91]⟩ : ByteArray)) ++ t166) ++ (⟨#[93, 32, 99, 111, 109, 109, 115, 32, 91]⟩ : ByteArray)) ++ t167).size + 1 ≤ 9223372036854775807 then (if ai > 0 then ((attr_digits.f ai).bind fun t168 => (if 6 + t168.size ≤ 9223372036854775807 then (if (((((((((((⟨#[112, 114, 101, 102, 32]⟩ : ByteArray) ++ t160) ++ (⟨#[32, 109, 101, 100, 32]⟩ : ByteArray)) ++ t161) ++ (⟨#[32, 111, 114, 105, 103, 105, 110, 32]⟩ : ByteArray)) ++ (rdOf ByteArray.empty ad ac)) ++ (⟨#[32, 112, 97, 116, 104, 32, 91]⟩ : ByteArray)) ++ t166) ++ (⟨#[93, 32, 99, 111, 109, 109, 115, 32, 91]⟩ : ByteArray)) ++ t167) ++ (⟨#[93]⟩ : ByteArray)).size + ((⟨#[32, 102, 114, 111, 109, 32]⟩ : ByteArray) ++ t168).size ≤ 9223372036854775807 then (attr_Text.j0 k ((((((((((((⟨#[112, 114, 101, 102, 32]⟩ : ByteArray) ++ t160) ++ (⟨#[32, 109, 101, 100, 32]⟩ : ByteArray)) ++ t161) ++ (⟨#[32, 111, 114, 105, 103, 105, 110, 32]⟩ : ByteArray)) ++ (rdOf ByteArray.empty ad ac)) ++ (⟨#[32, 112, 97, 116, 104, 32, 91]⟩ : ByteArray)) ++ t166) ++ (⟨#[93, 32, 99, 111, 109, 109, 115, 32, 91]⟩ : ByteArray)) ++ t167) ++ (⟨#[93]⟩ : ByteArray)) ++ ((⟨#[32, 102, 114, 111, 109, 32]⟩ : ByteArray) ++ t168)) aj ak ac ag ah ai ae) else (none)) else (none))) else (attr_Text.j0 k (((((((((((⟨#[112, 114, 101, 102, 32]⟩ : ByteArray) ++ t160) ++ (⟨#[32, 109, 101, 100, 32]⟩ : ByteArray)) ++ t161) ++ (⟨#[32, 111, 114, 105, 103, 105, 110, 32]⟩ : ByteArray)) ++ (rdOf ByteArray.empty ad ac)) ++ (⟨#[32, 112, 97, 116, 104, 32, 91]⟩ : ByteArray)) ++ t166) ++ (⟨#[93, 32, 99, 111, 109, 109, 115, 32, 91]⟩ : ByteArray)) ++ t167) ++ (⟨#[93]⟩ : ByteArray)) aj ak ac ag ah ai ae)) else (none)) else (none))) else (none)) else (none))) else (none)) else (none)) else (none)) else (none)) = some r := by first | (rw [hy162]; with_reducible exact H) | (have H2_ := (Option.bind_some _ _).symm.trans H; rw [hy162]; with_reducible exact H2_) | (have H2_ := (Option.bind_some _ _).symm.trans H; with_reducible exact H2_) | with_reducible exact H | (rw [hy162]; exact H) | exact H
      have Ny162 := Aside0.mk hy162
      clear hy162
      by_cases c10 : 0 ≤ ac
      ·rw [if_pos c10] at H
       have c10b0 : decide (0 ≤ ac) = true := decide_eq_true c10
       clear c10
       by_cases c11 : ac < (ad.length : Int)
       ·rw [if_pos c11] at H
        have c11b0 : decide (ac < (ad.length : Int)) = true := decide_eq_true c11
        clear c11
        by_cases c12 : (((((⟨#[112, 114, 101, 102, 32]⟩ : ByteArray) ++ t160) ++ (⟨#[32, 109, 101, 100, 32]⟩ : ByteArray)) ++ t161) ++ (⟨#[32, 111, 114, 105, 103, 105, 110, 32]⟩ : ByteArray)).size + (rdOf ByteArray.empty ad ac).size ≤ 9223372036854775807
        ·rw [if_pos c12] at H
         have c12b0 := eq_true c12
         have c12b1 : decide ((((((⟨#[112, 114, 101, 102, 32]⟩ : ByteArray) ++ t160) ++ (⟨#[32, 109, 101, 100, 32]⟩ : ByteArray)) ++ t161) ++ (⟨#[32, 111, 114, 105, 103, 105, 110, 32]⟩ : ByteArray)).size + (rdOf ByteArray.empty ad ac).size ≤ 9223372036854775807) = true := decide_eq_true c12
         try have c12b2 : (9223372036854775807 < (((((⟨#[112, 114, 101, 102, 32]⟩ : ByteArray) ++ t160) ++ (⟨#[32, 109, 101, 100, 32]⟩ : ByteArray)) ++ t161) ++ (⟨#[32, 111, 114, 105, 103, 105, 110, 32]⟩ : ByteArray)).size + (rdOf ByteArray.empty ad ac).size) = False := eq_false (Nat.not_lt.2 c12)
         try have c12b3 : (9223372036854775807 < 5 + t160.size + 5 + t161.size + 8 + (rdOf ByteArray.empty ad ac).size) = False := eq_false (Nat.not_lt.2 (by have h_ := c12; simp only [ByteArray.size_append] at h_; exact h_))
         by_cases c13 : ((((((⟨#[112, 114, 101, 102, 32]⟩ : ByteArray) ++ t160) ++ (⟨#[32, 109, 101, 100, 32]⟩ : ByteArray)) ++ t161) ++ (⟨#[32, 111, 114, 105, 103, 105, 110, 32]⟩ : ByteArray)) ++ (rdOf ByteArray.empty ad ac)).size + 7 ≤ 9223372036854775807
         ·rw [if_pos c13] at H
          have c13b0 := eq_true c13
          have c13b1 : decide (((((((⟨#[112, 114, 101, 102, 32]⟩ : ByteArray) ++ t160) ++ (⟨#[32, 109, 101, 100, 32]⟩ : ByteArray)) ++ t161) ++ (⟨#[32, 111, 114, 105, 103, 105, 110, 32]⟩ : ByteArray)) ++ (rdOf ByteArray.empty ad ac)).size + 7 ≤ 9223372036854775807) = true := decide_eq_true c13
          try have c13b2 : (9223372036854775807 < ((((((⟨#[112, 114, 101, 102, 32]⟩ : ByteArray) ++ t160) ++ (⟨#[32, 109, 101, 100, 32]⟩ : ByteArray)) ++ t161) ++ (⟨#[32, 111, 114, 105, 103, 105, 110, 32]⟩ : ByteArray)) ++ (rdOf ByteArray.empty ad ac)).size + 7) = False := eq_false (Nat.not_lt.2 c13)
          try have c13b3 : (9223372036854775807 < 5 + t160.size + 5 + t161.size + 8 + ((rdOf ByteArray.empty ad ac)).size + 7) = False := eq_false (Nat.not_lt.2 (by have h_ := c13; simp only [ByteArray.size_append] at h_; exact h_))
          replace H := Option.bind_eq_some_iff.mp H
          obtain ⟨t166, A140, H⟩ := H
          (try dsimp only at H)
          have A14 := Aside0.mk A140
          clear A140
          by_cases au : (((((((⟨#[112, 114, 101, 102, 32]⟩ : ByteArray) ++ t160) ++ (⟨#[32, 109, 101, 100, 32]⟩ : ByteArray)) ++ t161) ++ (⟨#[32, 111, 114, 105, 103, 105, 110, 32]⟩ : ByteArray)) ++ (rdOf ByteArray.empty ad ac)) ++ (⟨#[32, 112, 97, 116, 104, 32, 91]⟩ : ByteArray)).size + t166.size ≤ 9223372036854775807
          ·rw [if_pos au] at H
           have c15b0 := eq_true au
           have c15b1 : decide ((((((((⟨#[112, 114, 101, 102, 32]⟩ : ByteArray) ++ t160) ++ (⟨#[32, 109, 101, 100, 32]⟩ : ByteArray)) ++ t161) ++ (⟨#[32, 111, 114, 105, 103, 105, 110, 32]⟩ : ByteArray)) ++ (rdOf ByteArray.empty ad ac)) ++ (⟨#[32, 112, 97, 116, 104, 32, 91]⟩ : ByteArray)).size + t166.size ≤ 9223372036854775807) = true := decide_eq_true au
           try have c15b2 : (9223372036854775807 < (((((((⟨#[112, 114, 101, 102, 32]⟩ : ByteArray) ++ t160) ++ (⟨#[32, 109, 101, 100, 32]⟩ : ByteArray)) ++ t161) ++ (⟨#[32, 111, 114, 105, 103, 105, 110, 32]⟩ : ByteArray)) ++ (rdOf ByteArray.empty ad ac)) ++ (⟨#[32, 112, 97, 116, 104, 32, 91]⟩ : ByteArray)).size + t166.size) = False := eq_false (Nat.not_lt.2 au)
           try have c15b3 : (9223372036854775807 < 5 + t160.size + 5 + t161.size + 8 + ((rdOf ByteArray.empty ad ac)).size + 7 + t166.size) = False := eq_false (Nat.not_lt.2 (by have h_ := au; simp only [ByteArray.size_append] at h_; exact h_))
           by_cases av : ((((((((⟨#[112, 114, 101, 102, 32]⟩ : ByteArray) ++ t160) ++ (⟨#[32, 109, 101, 100, 32]⟩ : ByteArray)) ++ t161) ++ (⟨#[32, 111, 114, 105, 103, 105, 110, 32]⟩ : ByteArray)) ++ (rdOf ByteArray.empty ad ac)) ++ (⟨#[32, 112, 97, 116, 104, 32, 91]⟩ : ByteArray)) ++ t166).size + 9 ≤ 9223372036854775807
           ·rw [if_pos av] at H
            have c16b0 := eq_true av
            have c16b1 : decide (((((((((⟨#[112, 114, 101, 102, 32]⟩ : ByteArray) ++ t160) ++ (⟨#[32, 109, 101, 100, 32]⟩ : ByteArray)) ++ t161) ++ (⟨#[32, 111, 114, 105, 103, 105, 110, 32]⟩ : ByteArray)) ++ (rdOf ByteArray.empty ad ac)) ++ (⟨#[32, 112, 97, 116, 104, 32, 91]⟩ : ByteArray)) ++ t166).size + 9 ≤ 9223372036854775807) = true := decide_eq_true av
            try have c16b2 : (9223372036854775807 < ((((((((⟨#[112, 114, 101, 102, 32]⟩ : ByteArray) ++ t160) ++ (⟨#[32, 109, 101, 100, 32]⟩ : ByteArray)) ++ t161) ++ (⟨#[32, 111, 114, 105, 103, 105, 110, 32]⟩ : ByteArray)) ++ (rdOf ByteArray.empty ad ac)) ++ (⟨#[32, 112, 97, 116, 104, 32, 91]⟩ : ByteArray)) ++ t166).size + 9) = False := eq_false (Nat.not_lt.2 av)
            try have c16b3 : (9223372036854775807 < 5 + t160.size + 5 + t161.size + 8 + ((rdOf ByteArray.empty ad ac)).size + 7 + t166.size + 9) = False := eq_false (Nat.not_lt.2 (by have h_ := av; simp only [ByteArray.size_append] at h_; exact h_))
            replace H := Option.bind_eq_some_iff.mp H
            obtain ⟨t167, A170, H⟩ := H
            (try dsimp only at H)
            have A17 := Aside0.mk A170
            clear A170
            by_cases aw : (((((((((⟨#[112, 114, 101, 102, 32]⟩ : ByteArray) ++ t160) ++ (⟨#[32, 109, 101, 100, 32]⟩ : ByteArray)) ++ t161) ++ (⟨#[32, 111, 114, 105, 103, 105, 110, 32]⟩ : ByteArray)) ++ (rdOf ByteArray.empty ad ac)) ++ (⟨#[32, 112, 97, 116, 104, 32, 91]⟩ : ByteArray)) ++ t166) ++ (⟨#[93, 32, 99, 111, 109, 109, 115, 32, 91]⟩ : ByteArray)).size + t167.size ≤ 9223372036854775807
            ·rw [if_pos aw] at H
             have c18b0 := eq_true aw
             have c18b1 : decide ((((((((((⟨#[112, 114, 101, 102, 32]⟩ : ByteArray) ++ t160) ++ (⟨#[32, 109, 101, 100, 32]⟩ : ByteArray)) ++ t161) ++ (⟨#[32, 111, 114, 105, 103, 105, 110, 32]⟩ : ByteArray)) ++ (rdOf ByteArray.empty ad ac)) ++ (⟨#[32, 112, 97, 116, 104, 32, 91]⟩ : ByteArray)) ++ t166) ++ (⟨#[93, 32, 99, 111, 109, 109, 115, 32, 91]⟩ : ByteArray)).size + t167.size ≤ 9223372036854775807) = true := decide_eq_true aw
             try have c18b2 : (9223372036854775807 < (((((((((⟨#[112, 114, 101, 102, 32]⟩ : ByteArray) ++ t160) ++ (⟨#[32, 109, 101, 100, 32]⟩ : ByteArray)) ++ t161) ++ (⟨#[32, 111, 114, 105, 103, 105, 110, 32]⟩ : ByteArray)) ++ (rdOf ByteArray.empty ad ac)) ++ (⟨#[32, 112, 97, 116, 104, 32, 91]⟩ : ByteArray)) ++ t166) ++ (⟨#[93, 32, 99, 111, 109, 109, 115, 32, 91]⟩ : ByteArray)).size + t167.size) = False := eq_false (Nat.not_lt.2 aw)
             try have c18b3 : (9223372036854775807 < 5 + t160.size + 5 + t161.size + 8 + ((rdOf ByteArray.empty ad ac)).size + 7 + t166.size + 9 + t167.size) = False := eq_false (Nat.not_lt.2 (by have h_ := aw; simp only [ByteArray.size_append] at h_; exact h_))
             by_cases ax : ((((((((((⟨#[112, 114, 101, 102, 32]⟩ : ByteArray) ++ t160) ++ (⟨#[32, 109, 101, 100, 32]⟩ : ByteArray)) ++ t161) ++ (⟨#[32, 111, 114, 105, 103, 105, 110, 32]⟩ : ByteArray)) ++ (rdOf ByteArray.empty ad ac)) ++ (⟨#[32, 112, 97, 116, 104, 32, 91]⟩ : ByteArray)) ++ t166) ++ (⟨#[93, 32, 99, 111, 109, 109, 115, 32, 91]⟩ : ByteArray)) ++ t167).size + 1 ≤ 9223372036854775807
             ·rw [if_pos ax] at H
              have c19b0 := eq_true ax
              have c19b1 : decide (((((((((((⟨#[112, 114, 101, 102, 32]⟩ : ByteArray) ++ t160) ++ (⟨#[32, 109, 101, 100, 32]⟩ : ByteArray)) ++ t161) ++ (⟨#[32, 111, 114, 105, 103, 105, 110, 32]⟩ : ByteArray)) ++ (rdOf ByteArray.empty ad ac)) ++ (⟨#[32, 112, 97, 116, 104, 32, 91]⟩ : ByteArray)) ++ t166) ++ (⟨#[93, 32, 99, 111, 109, 109, 115, 32, 91]⟩ : ByteArray)) ++ t167).size + 1 ≤ 9223372036854775807) = true := decide_eq_true ax
              try have c19b2 : (9223372036854775807 < ((((((((((⟨#[112, 114, 101, 102, 32]⟩ : ByteArray) ++ t160) ++ (⟨#[32, 109, 101, 100, 32]⟩ : ByteArray)) ++ t161) ++ (⟨#[32, 111, 114, 105, 103, 105, 110, 32]⟩ : ByteArray)) ++ (rdOf ByteArray.empty ad ac)) ++ (⟨#[32, 112, 97, 116, 104, 32, 91]⟩ : ByteArray)) ++ t166) ++ (⟨#[93, 32, 99, 111, 109, 109, 115, 32, 91]⟩ : ByteArray)) ++ t167).size + 1) = False := eq_false (Nat.not_lt.2 ax)
              try have c19b3 : (9223372036854775807 < 5 + t160.size + 5 + t161.size + 8 + ((rdOf ByteArray.empty ad ac)).size + 7 + t166.size + 9 + t167.size + 1) = False := eq_false (Nat.not_lt.2 (by have h_ := ax; simp only [ByteArray.size_append] at h_; exact h_))
              have HC20 := Aside0.mk H
              clear H
              go_enter Try.func14, Try.ntmps14
              try go_wp2_with (first | ((with_reducible refine gate_dst (N := 1) rfl ?_); refine box_event ?hg (N := 1) ?hd (cs := #[.int .i64 aj, .int .i64 ak, .int .i64 ac, .slice al ag.length am, .slice an ah.length ao, .int .i64 ai, .slice ar ae.length aq]) (t := 30) ?hr ?_; (case hd => rfl); (case hg => rfl); (case hr => first | (go_simp; done) | (go_simp; rfl)); intro ab hg w21 hbox hb; have n0_ := Aside0.mk (below_step (by repeat (first | (with_reducible first | exact HB.out | apply below_alloc | apply pw_below_drewN | apply below_drew1) | exact HB.out)) hb); have n1_ := Aside0.mk (hbox); have n2_ := Aside0.mk ((by rw [hg]; exact (below_size (by repeat (first | (with_reducible first | exact HB.out | apply below_alloc | apply pw_below_drewN | apply below_drew1) | exact HB.out))) : w.heap.size ≤ ab)); have n3_ := Aside0.mk ((by rw [hg]; exact (below_size (by repeat (first | (with_reducible first | exact HB.out | apply below_alloc | apply pw_below_drewN | apply below_drew1) | exact HB.out))) : w.heap.size ≤ ab)); clear HB; have HB := n0_; have aa := n1_; have GW158 := n2_; have af := n3_; clear n0_ n1_ n2_ n3_; clear hb hbox hg; have hcz22_0 : w21.cell? ⟨ab, 0, none⟩ = some (.int .i64 aj) := (blk_cell aa.out 0).trans rfl; have hcz22_1 : w21.cell? ⟨ab, 1, none⟩ = some (.int .i64 ak) := (blk_cell aa.out 1).trans rfl; have hcz22_2 : w21.cell? ⟨ab, 2, none⟩ = some (.int .i64 ac) := (blk_cell aa.out 2).trans rfl; have hcz22_3 : w21.cell? ⟨ab, 3, none⟩ = some (.slice al ag.length am) := (blk_cell aa.out 3).trans rfl; have hcz22_4 : w21.cell? ⟨ab, 4, none⟩ = some (.slice an ah.length ao) := (blk_cell aa.out 4).trans rfl; have hcz22_5 : w21.cell? ⟨ab, 5, none⟩ = some (.int .i64 ai) := (blk_cell aa.out 5).trans rfl; have hcz22_6 : w21.cell? ⟨ab, 6, none⟩ = some (.slice ar ae.length aq) := (blk_cell aa.out 6).trans rfl; have hfz22_0 := blk_frozen aa.out 0; have hfz22_1 := blk_frozen aa.out 1; have hfz22_2 := blk_frozen aa.out 2; have hfz22_3 := blk_frozen aa.out 3; have hfz22_4 := blk_frozen aa.out 4; have hfz22_5 := blk_frozen aa.out 5; have hfz22_6 := blk_frozen aa.out 6) | ((with_reducible refine gate_callee (f := 15) rfl ?_); refine goesL_ (some 8) rfl rfl Try.func15 (by kernel_rfl) rfl #[.agg #[.int .i64 aj, .int .i64 ak, .int .i64 ac, .slice al ag.length am, .slice an ah.length ao, .int .i64 ai, .slice ar ae.length aq]] rfl (by (try simp only [List.map_toArray, List.map_cons, List.map_nil]); first | done | rfl) ?_; (with_reducible refine (attr_May.calls k aj ak ac _ _ ag _ _ ah ai _ _ ae true _ ?side1 ?side2 ?side3 ?side4 ?side5 ?side6 A2.out).mono ?_); (case side1 | side3 | side5 => repeat (first | exact (Kd.C_below HR0_3.out HB.out) | exact (Kd.C_below HR0_4.out HB.out) | exact (Kd.C_below HR0_6.out HB.out) | (with_reducible refine Kd.C_alloc ?_ _) | (with_reducible refine Kd.C_drewN ?_ _) | (with_reducible refine Kd.C_drew ?_))); (case side2 | side4 | side6 => first | exact HC0_3.out | exact HC0_4.out | exact HC0_6.out); rintro e w23 ⟨rfl, hb⟩; refine ⟨_, rfl, ?_⟩; replace aa := Aside0.mk (blk_below (g := ab) (by (with_reducible repeat (first | refine blk_drewN ?_ _ | refine blk_drew ?_ | refine blk_alloc ?_ _)); exact aa.out) hb); replace HB := Aside0.mk (below_step (by repeat (first | (with_reducible first | exact HB.out | apply below_alloc | apply pw_below_drewN | apply below_drew1 | refine below_set ?_ af.out) | exact HB.out)) hb); (try clear hb); (try clear ay); (try clear hk); (try clear hi)))
              have pi165 : (0 ≤ (ac : Int)) = True := eq_true (of_decide_eq_true (by first | (with_reducible assumption) | assumption))
              have qi165 : (ac < (ad.length : Int)) = True := eq_true (of_decide_eq_true (by first | (with_reducible assumption) | assumption))
              replace aa := Aside0.mk (blk_drew aa.out)
              replace HB := Aside0.mk (below_drew1 HB.out)
              refine start_ (n := 28) (S := fun w' => True) (ds := []) #[false, false, false, false, false, false, false, false, false, false, false, false, false, false, false, false, false, false, false, false, false, false, false, false, false, false, false, false] (by kernel_rfl) rfl rfl trivial (fun hHeld => ?_); refine with_tabW attr_Text.tab3 attr_Text.bits3 (fun HT_ HW_ => ?_)
              generalize w23.drew = w24 at aa HB hHeld ⊢
              refine pure_ (i := 0) (N := some 10) (v := ?_) (a' := ?_) #[true, false, false, false, false, false, false, false, false, false, false, false, false, false, false, false, false, false, false, false, false, false, false, false, false, false, false, false] rfl rfl (any_of HT_.out (by kernel_rfl)) (fun _ _ _ h => h) (Or.inl ⟨by rfl, ?_⟩) ?_ ?_
              rotate_left
              ·intro w'
               go_simp
               with_reducible rfl
              rotate_left
              ·simp only [Act.put, List.setIfInBounds_toArray, List.set_cons_zero, List.set_cons_succ, i64_w, i32_w]
               rfl
              refine pure_ (i := 5) (N := some 15) (v := ?_) (a' := ?_) #[true, false, false, false, false, true, false, false, false, false, false, false, false, false, false, false, false, false, false, false, false, false, false, false, false, false, false, false] rfl rfl (any_of HT_.out (by kernel_rfl)) (fun _ _ _ h => h) (Or.inl ⟨by rfl, ?_⟩) ?_ ?_
              rotate_left
              ·intro w'
               go_simp
               with_reducible rfl
              rotate_left
              ·simp only [Act.put, List.setIfInBounds_toArray, List.set_cons_zero, List.set_cons_succ, i64_w, i32_w]
               rfl
              refine pure_ (i := 11) (N := some 21) (v := ?_) (a' := ?_) #[true, false, false, false, false, true, false, false, false, false, false, true, false, false, false, false, false, false, false, false, false, false, false, false, false, false, false, false] rfl rfl (any_of HT_.out (by kernel_rfl)) (fun _ _ _ h => h) (Or.inl ⟨by rfl, ?_⟩) ?_ ?_
              rotate_left
              ·intro w'
               go_simp
               with_reducible rfl
              rotate_left
              ·simp only [Act.put, List.setIfInBounds_toArray, List.set_cons_zero, List.set_cons_succ, i64_w, i32_w]
               rfl
              refine pure_ (i := 17) (N := some 27) (v := ?_) (a' := ?_) #[true, false, false, false, false, true, false, false, false, false, false, true, false, false, false, false, false, true, false, false, false, false, false, false, false, false, false, false] rfl rfl (any_of HT_.out (by kernel_rfl)) (fun _ _ _ h => h) (Or.inl ⟨by rfl, ?_⟩) ?_ ?_
              rotate_left
              ·intro w'
               go_simp
               with_reducible rfl
              rotate_left
              ·simp only [Act.put, List.setIfInBounds_toArray, List.set_cons_zero, List.set_cons_succ, i64_w, i32_w]
               rfl
              refine pure_ (i := 22) (N := some 32) (v := ?_) (a' := ?_) #[true, false, false, false, false, true, false, false, false, false, false, true, false, false, false, false, false, true, false, false, false, false, true, false, false, false, false, false] rfl rfl (any_of HT_.out (by kernel_rfl)) (fun _ _ _ h => h) (Or.inl ⟨by rfl, ?_⟩) ?_ ?_
              rotate_left
              ·intro w'
               go_simp
               with_reducible rfl
              rotate_left
              ·simp only [Act.put, List.setIfInBounds_toArray, List.set_cons_zero, List.set_cons_succ, i64_w, i32_w]
               rfl
              refine inv_at [1, 2, 3, 4, 6, 7, 8, 9, 10, 12, 13, 14, 15, 16, 18, 19, 20, 21, 23, 24, 25, 26, 27] (fun a0_ b a w' => ∃ (v163 : Value) (adz_v163 : Addr) (m13_ : Value), a = putSel a0_ b [(1, 11, .int .i64 aj), (2, 12, .string t160), (3, 13, .string ((⟨#[112, 114, 101, 102, 32]⟩ : ByteArray) ++ t160)), (4, 14, .string (((⟨#[112, 114, 101, 102, 32]⟩ : ByteArray) ++ t160) ++ (⟨#[32, 109, 101, 100, 32]⟩ : ByteArray))), (6, 16, .int .i64 ak), (7, 17, .string t161), (8, 18, .string ((((⟨#[112, 114, 101, 102, 32]⟩ : ByteArray) ++ t160) ++ (⟨#[32, 109, 101, 100, 32]⟩ : ByteArray)) ++ t161)), (9, 19, .string (((((⟨#[112, 114, 101, 102, 32]⟩ : ByteArray) ++ t160) ++ (⟨#[32, 109, 101, 100, 32]⟩ : ByteArray)) ++ t161) ++ (⟨#[32, 111, 114, 105, 103, 105, 110, 32]⟩ : ByteArray))), (10, 20, v163), (12, 22, .int .i64 ac), (13, 23, m13_), (14, 24, .string (rdOf ByteArray.empty ad ac)), (15, 25, .string ((((((⟨#[112, 114, 101, 102, 32]⟩ : ByteArray) ++ t160) ++ (⟨#[32, 109, 101, 100, 32]⟩ : ByteArray)) ++ t161) ++ (⟨#[32, 111, 114, 105, 103, 105, 110, 32]⟩ : ByteArray)) ++ (rdOf ByteArray.empty ad ac))), (16, 26, .string (((((((⟨#[112, 114, 101, 102, 32]⟩ : ByteArray) ++ t160) ++ (⟨#[32, 109, 101, 100, 32]⟩ : ByteArray)) ++ t161) ++ (⟨#[32, 111, 114, 105, 103, 105, 110, 32]⟩ : ByteArray)) ++ (rdOf ByteArray.empty ad ac)) ++ (⟨#[32, 112, 97, 116, 104, 32, 91]⟩ : ByteArray))), (18, 28, .slice al ag.length am), (19, 29, .string t166), (20, 30, .string ((((((((⟨#[112, 114, 101, 102, 32]⟩ : ByteArray) ++ t160) ++ (⟨#[32, 109, 101, 100, 32]⟩ : ByteArray)) ++ t161) ++ (⟨#[32, 111, 114, 105, 103, 105, 110, 32]⟩ : ByteArray)) ++ (rdOf ByteArray.empty ad ac)) ++ (⟨#[32, 112, 97, 116, 104, 32, 91]⟩ : ByteArray)) ++ t166)), (21, 31, .string (((((((((⟨#[112, 114, 101, 102, 32]⟩ : ByteArray) ++ t160) ++ (⟨#[32, 109, 101, 100, 32]⟩ : ByteArray)) ++ t161) ++ (⟨#[32, 111, 114, 105, 103, 105, 110, 32]⟩ : ByteArray)) ++ (rdOf ByteArray.empty ad ac)) ++ (⟨#[32, 112, 97, 116, 104, 32, 91]⟩ : ByteArray)) ++ t166) ++ (⟨#[93, 32, 99, 111, 109, 109, 115, 32, 91]⟩ : ByteArray))), (23, 33, .slice an ah.length ao), (24, 34, .string t167), (25, 35, .string ((((((((((⟨#[112, 114, 101, 102, 32]⟩ : ByteArray) ++ t160) ++ (⟨#[32, 109, 101, 100, 32]⟩ : ByteArray)) ++ t161) ++ (⟨#[32, 111, 114, 105, 103, 105, 110, 32]⟩ : ByteArray)) ++ (rdOf ByteArray.empty ad ac)) ++ (⟨#[32, 112, 97, 116, 104, 32, 91]⟩ : ByteArray)) ++ t166) ++ (⟨#[93, 32, 99, 111, 109, 109, 115, 32, 91]⟩ : ByteArray)) ++ t167)), (26, 36, .string (((((((((((⟨#[112, 114, 101, 102, 32]⟩ : ByteArray) ++ t160) ++ (⟨#[32, 109, 101, 100, 32]⟩ : ByteArray)) ++ t161) ++ (⟨#[32, 111, 114, 105, 103, 105, 110, 32]⟩ : ByteArray)) ++ (rdOf ByteArray.empty ad ac)) ++ (⟨#[32, 112, 97, 116, 104, 32, 91]⟩ : ByteArray)) ++ t166) ++ (⟨#[93, 32, 99, 111, 109, 109, 115, 32, 91]⟩ : ByteArray)) ++ t167) ++ (⟨#[93]⟩ : ByteArray))), (27, 3, .string (((((((((((⟨#[112, 114, 101, 102, 32]⟩ : ByteArray) ++ t160) ++ (⟨#[32, 109, 101, 100, 32]⟩ : ByteArray)) ++ t161) ++ (⟨#[32, 111, 114, 105, 103, 105, 110, 32]⟩ : ByteArray)) ++ (rdOf ByteArray.empty ad ac)) ++ (⟨#[32, 112, 97, 116, 104, 32, 91]⟩ : ByteArray)) ++ t166) ++ (⟨#[93, 32, 99, 111, 109, 109, 115, 32, 91]⟩ : ByteArray)) ++ t167) ++ (⟨#[93]⟩ : ByteArray)))] ∧ (w'.heap[ab]? = some (.cells #[.int .i64 aj, .int .i64 ak, .int .i64 ac, .slice al ag.length am, .slice an ah.length ao, .int .i64 ai, .slice ar ae.length aq] 30 (0, 0))) ∧ (Below w.heap.size w w') ∧ (b 10 = true → Kd.R Kd.string 9 w' w.heap.size (fun _ => True) v163 ad) ∧ (b 10 = true → ∃ c_, (v163 : Value) = .slice (some adz_v163) ad.length c_) ∧ (b 13 = true → (m13_ : Value) = .pointer (some (adz_v163.add (ac).toNat)))) HT_.out HW_.out (by kernel_rfl) (by kernel_rfl) ?_ ?_ ?_
              ·exact ⟨.bool false, ⟨0, 0, none⟩, .bool false, by simp only [putSel, Bool.false_eq_true, if_false], aa.out, HB.out, fun h_ => absurd h_ (by decide), fun h_ => absurd h_ (by decide), fun h_ => absurd h_ (by decide)⟩
              ·skip
               clear aa HB
               refine steps_cons ?_ ?_
               ·rintro b a w' ⟨v163, adz_v163, m13_, ha, Q_BK158, Q_HB, Q_HO164, Q_HA_HO164, Q_X13_⟩ hb_ hon hoff
                refine ⟨_, rfl, fun K hK => ?_⟩
                have e10 : a.tmps[10]? = some (.pointer (some ⟨ab, 0, none⟩)) := by rw [ha]; exact (putSel_off rfl).trans rfl
                replace ha := Aside0.mk ha
                have aa := Aside0.mk Q_BK158
                have HB := Aside0.mk Q_HB
                have hc0_ : w'.cell? ⟨ab, 0, none⟩ = some (.int .i64 aj) := (blk_cell aa.out 0).trans rfl
                have hc1_ : w'.cell? ⟨ab, 1, none⟩ = some (.int .i64 ak) := (blk_cell aa.out 1).trans rfl
                have hc2_ : w'.cell? ⟨ab, 2, none⟩ = some (.int .i64 ac) := (blk_cell aa.out 2).trans rfl
                have hc3_ : w'.cell? ⟨ab, 3, none⟩ = some (.slice al ag.length am) := (blk_cell aa.out 3).trans rfl
                have hc4_ : w'.cell? ⟨ab, 4, none⟩ = some (.slice an ah.length ao) := (blk_cell aa.out 4).trans rfl
                have hc5_ : w'.cell? ⟨ab, 5, none⟩ = some (.int .i64 ai) := (blk_cell aa.out 5).trans rfl
                have hc6_ : w'.cell? ⟨ab, 6, none⟩ = some (.slice ar ae.length aq) := (blk_cell aa.out 6).trans rfl
                refine value_ (w1 := w') (v := .int .i64 aj) (by rfl) rfl ?_ ?_
                ·go_simp
                 (try simp only [i64_w])
                 try rfl
                refine hK.out _ _ ⟨v163, adz_v163, m13_, (by rw [ha.out]; exact putSel_upk 0 hb_ rfl rfl rfl), Q_BK158, Q_HB, Q_HO164, Q_HA_HO164, Q_X13_⟩
               refine steps_cons ?_ ?_
               ·rintro b a w' ⟨v163, adz_v163, m13_, ha, Q_BK158, Q_HB, Q_HO164, Q_HA_HO164, Q_X13_⟩ hb_ hon hoff
                refine ⟨_, rfl, fun K hK => ?_⟩
                have e11 : a.tmps[11]? = some (.int .i64 aj) := by rw [ha]; exact putSel_on (e := (1, 11, .int .i64 aj)) 0 rfl rfl (hon 1 (by kernel_rfl)) rfl
                replace ha := Aside0.mk ha
                have aa := Aside0.mk Q_BK158
                have HB := Aside0.mk Q_HB
                refine goes_ Try.func37 (by kernel_rfl) rfl #[.int .i64 aj] (by rfl) rfl rfl (by first | (simp only [List.map_toArray, List.map_cons, List.map_nil, Act.eval, Array.getD_eq_getD_getElem?, Option.getD_some, e11]; done) | (simp only [List.map_toArray, List.map_cons, List.map_nil, Act.eval, Array.getD_eq_getD_getElem?, Option.getD_some, e11]; rfl)) ?_
                with_reducible refine (attr_digits.calls aj t160 _ A4.out).mono ?_
                rintro e w25 ⟨rfl, hb⟩
                refine ⟨_, rfl, ?_⟩
                have n0_ := Aside0.mk (blk_below (g := ab) (by (with_reducible repeat (first | refine blk_drewN ?_ _ | refine blk_drew ?_ | refine blk_alloc ?_ _)); exact aa.out) hb)
                have n1_ := Aside0.mk (below_step (by repeat (first | (with_reducible first | exact HB.out | apply below_alloc | apply pw_below_drewN | apply below_drew1 | refine below_set ?_ af.out) | exact HB.out)) hb)
                have z_HO164 := fun (h0_ : b 10 = true) => (show Kd.R Kd.string 9 w25 w.heap.size (fun _ => True) v163 ad from by first | exact (Kd.R_below (by (with_reducible repeat (first | apply Kd.R_alloc | apply Kd.R_drewN | apply Kd.R_drew)); exact (Q_HO164 h0_)) hb) | exact Kd.R_mono (Kd.R_below (by (with_reducible repeat (first | apply Kd.R_alloc | apply Kd.R_drewN | apply Kd.R_drew)); exact (Q_HO164 h0_)) hb) (fun _ h_ => by first | trivial | exact h_ | exact h_.1))
                clear aa
                clear HB
                have aa := n0_
                have HB := n1_
                clear n0_ n1_
                (try clear hb)
                (try clear ay)
                (try clear hk)
                (try clear hi)
                refine hK.out _ _ ⟨v163, adz_v163, m13_, (by rw [ha.out]; exact putSel_upk 1 hb_ rfl rfl rfl), (by (with_reducible repeat (first | refine blk_drewN ?_ _ | refine blk_drew ?_ | refine blk_alloc ?_ _)); exact aa.out), (by repeat (first | (with_reducible first | exact HB.out | apply below_alloc | apply pw_below_drewN | apply below_drew1 | refine below_set ?_ af.out) | exact HB.out)), z_HO164, Q_HA_HO164, Q_X13_⟩
               refine steps_cons ?_ ?_
               ·rintro b a w' ⟨v163, adz_v163, m13_, ha, Q_BK158, Q_HB, Q_HO164, Q_HA_HO164, Q_X13_⟩ hb_ hon hoff
                refine ⟨_, rfl, fun K hK => ?_⟩
                have e12 : a.tmps[12]? = some (.string t160) := by rw [ha]; exact putSel_on (e := (2, 12, .string t160)) 1 rfl rfl (hon 2 (by kernel_rfl)) rfl
                replace ha := Aside0.mk ha
                have aa := Aside0.mk Q_BK158
                have HB := Aside0.mk Q_HB
                refine value_ (w1 := w') (v := .string ((⟨#[112, 114, 101, 102, 32]⟩ : ByteArray) ++ t160)) (by rfl) rfl ?_ ?_
                ·go_simp
                 (try simp only [i64_w])
                 try rfl
                refine hK.out _ _ ⟨v163, adz_v163, m13_, (by rw [ha.out]; exact putSel_upk 2 hb_ rfl rfl rfl), Q_BK158, Q_HB, Q_HO164, Q_HA_HO164, Q_X13_⟩
               refine steps_cons ?_ ?_
               ·rintro b a w' ⟨v163, adz_v163, m13_, ha, Q_BK158, Q_HB, Q_HO164, Q_HA_HO164, Q_X13_⟩ hb_ hon hoff
                refine ⟨_, rfl, fun K hK => ?_⟩
                have e13 : a.tmps[13]? = some (.string ((⟨#[112, 114, 101, 102, 32]⟩ : ByteArray) ++ t160)) := by rw [ha]; exact putSel_on (e := (3, 13, .string ((⟨#[112, 114, 101, 102, 32]⟩ : ByteArray) ++ t160))) 2 rfl rfl (hon 3 (by kernel_rfl)) rfl
                replace ha := Aside0.mk ha
                have aa := Aside0.mk Q_BK158
                have HB := Aside0.mk Q_HB
                refine value_ (w1 := w') (v := .string (((⟨#[112, 114, 101, 102, 32]⟩ : ByteArray) ++ t160) ++ (⟨#[32, 109, 101, 100, 32]⟩ : ByteArray))) (by rfl) rfl ?_ ?_
                ·go_simp
                 (try simp only [i64_w])
                 try rfl
                refine hK.out _ _ ⟨v163, adz_v163, m13_, (by rw [ha.out]; exact putSel_upk 3 hb_ rfl rfl rfl), Q_BK158, Q_HB, Q_HO164, Q_HA_HO164, Q_X13_⟩
               refine steps_cons ?_ ?_
               ·rintro b a w' ⟨v163, adz_v163, m13_, ha, Q_BK158, Q_HB, Q_HO164, Q_HA_HO164, Q_X13_⟩ hb_ hon hoff
                refine ⟨_, rfl, fun K hK => ?_⟩
                have e15 : a.tmps[15]? = some (.pointer (some ⟨ab, 1, none⟩)) := by rw [ha]; exact (putSel_off rfl).trans rfl
                replace ha := Aside0.mk ha
                have aa := Aside0.mk Q_BK158
                have HB := Aside0.mk Q_HB
                have hc0_ : w'.cell? ⟨ab, 0, none⟩ = some (.int .i64 aj) := (blk_cell aa.out 0).trans rfl
                have hc1_ : w'.cell? ⟨ab, 1, none⟩ = some (.int .i64 ak) := (blk_cell aa.out 1).trans rfl
                have hc2_ : w'.cell? ⟨ab, 2, none⟩ = some (.int .i64 ac) := (blk_cell aa.out 2).trans rfl
                have hc3_ : w'.cell? ⟨ab, 3, none⟩ = some (.slice al ag.length am) := (blk_cell aa.out 3).trans rfl
                have hc4_ : w'.cell? ⟨ab, 4, none⟩ = some (.slice an ah.length ao) := (blk_cell aa.out 4).trans rfl
                have hc5_ : w'.cell? ⟨ab, 5, none⟩ = some (.int .i64 ai) := (blk_cell aa.out 5).trans rfl
                have hc6_ : w'.cell? ⟨ab, 6, none⟩ = some (.slice ar ae.length aq) := (blk_cell aa.out 6).trans rfl
                refine value_ (w1 := w') (v := .int .i64 ak) (by rfl) rfl ?_ ?_
                ·go_simp
                 (try simp only [i64_w])
                 try rfl
                refine hK.out _ _ ⟨v163, adz_v163, m13_, (by rw [ha.out]; exact putSel_upk 4 hb_ rfl rfl rfl), Q_BK158, Q_HB, Q_HO164, Q_HA_HO164, Q_X13_⟩
               refine steps_cons ?_ ?_
               ·rintro b a w' ⟨v163, adz_v163, m13_, ha, Q_BK158, Q_HB, Q_HO164, Q_HA_HO164, Q_X13_⟩ hb_ hon hoff
                refine ⟨_, rfl, fun K hK => ?_⟩
                have e16 : a.tmps[16]? = some (.int .i64 ak) := by rw [ha]; exact putSel_on (e := (6, 16, .int .i64 ak)) 4 rfl rfl (hon 6 (by kernel_rfl)) rfl
                replace ha := Aside0.mk ha
                have aa := Aside0.mk Q_BK158
                have HB := Aside0.mk Q_HB
                refine goes_ Try.func37 (by kernel_rfl) rfl #[.int .i64 ak] (by rfl) rfl rfl (by first | (simp only [List.map_toArray, List.map_cons, List.map_nil, Act.eval, Array.getD_eq_getD_getElem?, Option.getD_some, e16]; done) | (simp only [List.map_toArray, List.map_cons, List.map_nil, Act.eval, Array.getD_eq_getD_getElem?, Option.getD_some, e16]; rfl)) ?_
                with_reducible refine (attr_digits.calls ak t161 _ A7.out).mono ?_
                rintro e w27 ⟨rfl, hb⟩
                refine ⟨_, rfl, ?_⟩
                have n0_ := Aside0.mk (blk_below (g := ab) (by (with_reducible repeat (first | refine blk_drewN ?_ _ | refine blk_drew ?_ | refine blk_alloc ?_ _)); exact aa.out) hb)
                have n1_ := Aside0.mk (below_step (by repeat (first | (with_reducible first | exact HB.out | apply below_alloc | apply pw_below_drewN | apply below_drew1 | refine below_set ?_ af.out) | exact HB.out)) hb)
                have z_HO164 := fun (h0_ : b 10 = true) => (show Kd.R Kd.string 9 w27 w.heap.size (fun _ => True) v163 ad from by first | exact (Kd.R_below (by (with_reducible repeat (first | apply Kd.R_alloc | apply Kd.R_drewN | apply Kd.R_drew)); exact (Q_HO164 h0_)) hb) | exact Kd.R_mono (Kd.R_below (by (with_reducible repeat (first | apply Kd.R_alloc | apply Kd.R_drewN | apply Kd.R_drew)); exact (Q_HO164 h0_)) hb) (fun _ h_ => by first | trivial | exact h_ | exact h_.1))
                clear aa
                clear HB
                have aa := n0_
                have HB := n1_
                clear n0_ n1_
                (try clear hb)
                (try clear ay)
                (try clear hk)
                (try clear hi)
                refine hK.out _ _ ⟨v163, adz_v163, m13_, (by rw [ha.out]; exact putSel_upk 5 hb_ rfl rfl rfl), (by (with_reducible repeat (first | refine blk_drewN ?_ _ | refine blk_drew ?_ | refine blk_alloc ?_ _)); exact aa.out), (by repeat (first | (with_reducible first | exact HB.out | apply below_alloc | apply pw_below_drewN | apply below_drew1 | refine below_set ?_ af.out) | exact HB.out)), z_HO164, Q_HA_HO164, Q_X13_⟩
               refine steps_cons ?_ ?_
               ·rintro b a w' ⟨v163, adz_v163, m13_, ha, Q_BK158, Q_HB, Q_HO164, Q_HA_HO164, Q_X13_⟩ hb_ hon hoff
                refine ⟨_, rfl, fun K hK => ?_⟩
                have e14 : a.tmps[14]? = some (.string (((⟨#[112, 114, 101, 102, 32]⟩ : ByteArray) ++ t160) ++ (⟨#[32, 109, 101, 100, 32]⟩ : ByteArray))) := by rw [ha]; exact putSel_on (e := (4, 14, .string (((⟨#[112, 114, 101, 102, 32]⟩ : ByteArray) ++ t160) ++ (⟨#[32, 109, 101, 100, 32]⟩ : ByteArray)))) 3 rfl rfl (hon 4 (by kernel_rfl)) rfl
                have e17 : a.tmps[17]? = some (.string t161) := by rw [ha]; exact putSel_on (e := (7, 17, .string t161)) 5 rfl rfl (hon 7 (by kernel_rfl)) rfl
                replace ha := Aside0.mk ha
                have aa := Aside0.mk Q_BK158
                have HB := Aside0.mk Q_HB
                refine value_ (w1 := w') (v := .string ((((⟨#[112, 114, 101, 102, 32]⟩ : ByteArray) ++ t160) ++ (⟨#[32, 109, 101, 100, 32]⟩ : ByteArray)) ++ t161)) (by rfl) rfl ?_ ?_
                ·go_simp
                 (try simp only [i64_w])
                 try rfl
                refine hK.out _ _ ⟨v163, adz_v163, m13_, (by rw [ha.out]; exact putSel_upk 6 hb_ rfl rfl rfl), Q_BK158, Q_HB, Q_HO164, Q_HA_HO164, Q_X13_⟩
               refine steps_cons ?_ ?_
               ·rintro b a w' ⟨v163, adz_v163, m13_, ha, Q_BK158, Q_HB, Q_HO164, Q_HA_HO164, Q_X13_⟩ hb_ hon hoff
                refine ⟨_, rfl, fun K hK => ?_⟩
                have e18 : a.tmps[18]? = some (.string ((((⟨#[112, 114, 101, 102, 32]⟩ : ByteArray) ++ t160) ++ (⟨#[32, 109, 101, 100, 32]⟩ : ByteArray)) ++ t161)) := by rw [ha]; exact putSel_on (e := (8, 18, .string ((((⟨#[112, 114, 101, 102, 32]⟩ : ByteArray) ++ t160) ++ (⟨#[32, 109, 101, 100, 32]⟩ : ByteArray)) ++ t161))) 6 rfl rfl (hon 8 (by kernel_rfl)) rfl
                replace ha := Aside0.mk ha
                have aa := Aside0.mk Q_BK158
                have HB := Aside0.mk Q_HB
                refine value_ (w1 := w') (v := .string (((((⟨#[112, 114, 101, 102, 32]⟩ : ByteArray) ++ t160) ++ (⟨#[32, 109, 101, 100, 32]⟩ : ByteArray)) ++ t161) ++ (⟨#[32, 111, 114, 105, 103, 105, 110, 32]⟩ : ByteArray))) (by rfl) rfl ?_ ?_
                ·go_simp
                 (try simp only [i64_w])
                 try rfl
                refine hK.out _ _ ⟨v163, adz_v163, m13_, (by rw [ha.out]; exact putSel_upk 7 hb_ rfl rfl rfl), Q_BK158, Q_HB, Q_HO164, Q_HA_HO164, Q_X13_⟩
               refine steps_cons ?_ ?_
               ·rintro b a w' ⟨v163, adz_v163, m13_, ha, Q_BK158, Q_HB, Q_HO164, Q_HA_HO164, Q_X13_⟩ hb_ hon hoff
                refine ⟨_, rfl, fun K hK => ?_⟩
                replace ha := Aside0.mk ha
                have aa := Aside0.mk Q_BK158
                have HB := Aside0.mk Q_HB
                refine Kd.R_lit_step Kd.string _ 9 ?hg (N := 20) ?hd (xs := ([(⟨#[105, 103, 112]⟩ : ByteArray), (⟨#[101, 103, 112]⟩ : ByteArray), (⟨#[110, 111, 110, 101]⟩ : ByteArray)] : List ByteArray)) (inner := [.string (⟨#[105, 103, 112]⟩ : ByteArray), .string (⟨#[101, 103, 112]⟩ : ByteArray), .string (⟨#[110, 111, 110, 101]⟩ : ByteArray)]) (ok := fun _ => True) (okp := fun _ => True) ?hr ?hp (fun _ hk => hk) trivial (Below.refl _ _) (Nat.le_refl _) (by simp) ?_; (case hd => rfl); (case hg => rfl); (case hr => first | (go_simp; done) | (go_simp; rfl)); (case hp => exact (Reps.one (show Kd.M Kd.string _ _ _ (⟨#[105, 103, 112]⟩ : ByteArray) [.string (⟨#[105, 103, 112]⟩ : ByteArray)] from rfl) (Reps.one (show Kd.M Kd.string _ _ _ (⟨#[101, 103, 112]⟩ : ByteArray) [.string (⟨#[101, 103, 112]⟩ : ByteArray)] from rfl) (Reps.one (show Kd.M Kd.string _ _ _ (⟨#[110, 111, 110, 101]⟩ : ByteArray) [.string (⟨#[110, 111, 110, 101]⟩ : ByteArray)] from rfl) (Reps.none _ _)))))
                intro v163 w25 ho26 hb hg_ hnew_
                clear hg_ hnew_
                (first | rw [← Ny162.out] at ho26 | (simp only [Int.reduceToNat] at ho26; rw [← Ny162.out] at ho26))
                have ap := Aside0.mk (Kd.R_lower ho26 (below_size (by repeat (first | (with_reducible first | exact HB.out | apply below_alloc | apply pw_below_drewN | apply below_drew1 | refine below_set ?_ af.out) | exact HB.out))))
                replace aa := Aside0.mk (blk_below (g := ab) (by (with_reducible repeat (first | refine blk_drewN ?_ _ | refine blk_drew ?_ | refine blk_alloc ?_ _)); exact aa.out) hb)
                replace HB := Aside0.mk (below_step (by repeat (first | (with_reducible first | exact HB.out | apply below_alloc | apply pw_below_drewN | apply below_drew1 | refine below_set ?_ af.out) | exact HB.out)) hb)
                clear hb ho26
                obtain ⟨Ao27, co27, eo27⟩ := Kd.R_slice ap.out
                subst eo27
                obtain ⟨ado27, fo27, _⟩ := Kd.at_string (Kd.R_reads' ap.out).2.2 0 (by decide) (by rw [Ny162.out]; simp)
                cases fo27
                refine hK.out _ _ ⟨.slice (some ado27) ad.length co27, ado27, m13_, (by rw [ha.out]; exact putSel_upk 8 hb_ rfl rfl rfl), (by (with_reducible repeat (first | refine blk_drewN ?_ _ | refine blk_drew ?_ | refine blk_alloc ?_ _)); exact aa.out), (by repeat (first | (with_reducible first | exact HB.out | apply below_alloc | apply pw_below_drewN | apply below_drew1 | refine below_set ?_ af.out) | exact HB.out)), fun _ => (by (with_reducible repeat (first | apply Kd.R_alloc | apply Kd.R_drewN | apply Kd.R_drew)); exact ap.out), fun _ => ⟨_, rfl⟩, fun h0_ => absurd ((hoff 13 (by kernel_rfl)).symm.trans h0_) (by decide)⟩
               refine steps_cons ?_ ?_
               ·rintro b a w' ⟨v163, adz_v163, m13_, ha, Q_BK158, Q_HB, Q_HO164, Q_HA_HO164, Q_X13_⟩ hb_ hon hoff
                refine ⟨_, rfl, fun K hK => ?_⟩
                have e21 : a.tmps[21]? = some (.pointer (some ⟨ab, 2, none⟩)) := by rw [ha]; exact (putSel_off rfl).trans rfl
                replace ha := Aside0.mk ha
                have aa := Aside0.mk Q_BK158
                have HB := Aside0.mk Q_HB
                have hc0_ : w'.cell? ⟨ab, 0, none⟩ = some (.int .i64 aj) := (blk_cell aa.out 0).trans rfl
                have hc1_ : w'.cell? ⟨ab, 1, none⟩ = some (.int .i64 ak) := (blk_cell aa.out 1).trans rfl
                have hc2_ : w'.cell? ⟨ab, 2, none⟩ = some (.int .i64 ac) := (blk_cell aa.out 2).trans rfl
                have hc3_ : w'.cell? ⟨ab, 3, none⟩ = some (.slice al ag.length am) := (blk_cell aa.out 3).trans rfl
                have hc4_ : w'.cell? ⟨ab, 4, none⟩ = some (.slice an ah.length ao) := (blk_cell aa.out 4).trans rfl
                have hc5_ : w'.cell? ⟨ab, 5, none⟩ = some (.int .i64 ai) := (blk_cell aa.out 5).trans rfl
                have hc6_ : w'.cell? ⟨ab, 6, none⟩ = some (.slice ar ae.length aq) := (blk_cell aa.out 6).trans rfl
                refine value_ (w1 := w') (v := .int .i64 ac) (by rfl) rfl ?_ ?_
                ·go_simp
                 (try simp only [i64_w])
                 try rfl
                refine hK.out _ _ ⟨v163, adz_v163, m13_, (by rw [ha.out]; exact putSel_upk 9 hb_ rfl rfl rfl), Q_BK158, Q_HB, Q_HO164, Q_HA_HO164, fun h0_ => absurd ((hoff 13 (by kernel_rfl)).symm.trans h0_) (by decide)⟩
               refine steps_cons ?_ ?_
               ·rintro b a w' ⟨v163, adz_v163, m13_, ha, Q_BK158, Q_HB, Q_HO164, Q_HA_HO164, Q_X13_⟩ hb_ hon hoff
                refine ⟨_, rfl, fun K hK => ?_⟩
                have e20 : a.tmps[20]? = some (v163) := by rw [ha]; exact putSel_on (e := (10, 20, v163)) 8 rfl rfl (hon 10 (by kernel_rfl)) rfl
                have e22 : a.tmps[22]? = some (.int .i64 ac) := by rw [ha]; exact putSel_on (e := (12, 22, .int .i64 ac)) 9 rfl rfl (hon 12 (by kernel_rfl)) rfl
                replace ha := Aside0.mk ha
                have aa := Aside0.mk Q_BK158
                have HB := Aside0.mk Q_HB
                have ap := Aside0.mk (Q_HO164 (hon 10 (by kernel_rfl)))
                have HA_HO164 := Aside0.mk (Q_HA_HO164 (hon 10 (by kernel_rfl)))
                obtain ⟨c_, hv_⟩ := HA_HO164.out
                rw [hv_] at e20
                refine value_ (w1 := w') (v := .pointer (some (adz_v163.add (ac).toNat))) (by rfl) rfl ?_ ?_
                ·go_simp
                 (try simp only [i64_w])
                 try rfl
                refine hK.out _ _ ⟨v163, adz_v163, (.pointer (some (adz_v163.add (ac).toNat))), (by rw [ha.out]; exact putSel_upk 10 hb_ rfl rfl rfl), Q_BK158, Q_HB, Q_HO164, Q_HA_HO164, fun _ => rfl⟩
               refine steps_cons ?_ ?_
               ·rintro b a w' ⟨v163, adz_v163, m13_, ha, Q_BK158, Q_HB, Q_HO164, Q_HA_HO164, Q_X13_⟩ hb_ hon hoff
                refine ⟨_, rfl, fun K hK => ?_⟩
                have e23 : a.tmps[23]? = some (m13_) := by rw [ha]; exact putSel_on (e := (13, 23, m13_)) 10 rfl rfl (hon 13 (by kernel_rfl)) rfl
                rw [Q_X13_ (hon 13 (by kernel_rfl))] at e23
                replace ha := Aside0.mk ha
                have aa := Aside0.mk Q_BK158
                have HB := Aside0.mk Q_HB
                have ap := Aside0.mk (Q_HO164 (hon 10 (by kernel_rfl)))
                have HA_HO164 := Aside0.mk (Q_HA_HO164 (hon 10 (by kernel_rfl)))
                obtain ⟨c_, hv_⟩ := HA_HO164.out
                have hF_ := ap.out
                rw [hv_] at hF_
                obtain ⟨ad_, ea_, hx_⟩ := Kd.at_string (Kd.R_reads' hF_).2.2 ac (of_eq_true pi165) (of_eq_true qi165)
                cases ea_
                refine value_ (w1 := w') (v := .string (rdOf ByteArray.empty ad ac)) (by rfl) rfl ?_ ?_
                ·go_simp
                 (try simp only [i64_w])
                 try rfl
                refine hK.out _ _ ⟨v163, adz_v163, m13_, (by rw [ha.out]; exact putSel_upk 11 hb_ rfl rfl rfl), Q_BK158, Q_HB, Q_HO164, Q_HA_HO164, Q_X13_⟩
               refine steps_cons ?_ ?_
               ·rintro b a w' ⟨v163, adz_v163, m13_, ha, Q_BK158, Q_HB, Q_HO164, Q_HA_HO164, Q_X13_⟩ hb_ hon hoff
                refine ⟨_, rfl, fun K hK => ?_⟩
                have e19 : a.tmps[19]? = some (.string (((((⟨#[112, 114, 101, 102, 32]⟩ : ByteArray) ++ t160) ++ (⟨#[32, 109, 101, 100, 32]⟩ : ByteArray)) ++ t161) ++ (⟨#[32, 111, 114, 105, 103, 105, 110, 32]⟩ : ByteArray))) := by rw [ha]; exact putSel_on (e := (9, 19, .string (((((⟨#[112, 114, 101, 102, 32]⟩ : ByteArray) ++ t160) ++ (⟨#[32, 109, 101, 100, 32]⟩ : ByteArray)) ++ t161) ++ (⟨#[32, 111, 114, 105, 103, 105, 110, 32]⟩ : ByteArray)))) 7 rfl rfl (hon 9 (by kernel_rfl)) rfl
                have e24 : a.tmps[24]? = some (.string (rdOf ByteArray.empty ad ac)) := by rw [ha]; exact putSel_on (e := (14, 24, .string (rdOf ByteArray.empty ad ac))) 11 rfl rfl (hon 14 (by kernel_rfl)) rfl
                replace ha := Aside0.mk ha
                have aa := Aside0.mk Q_BK158
                have HB := Aside0.mk Q_HB
                have ap := Aside0.mk (Q_HO164 (hon 10 (by kernel_rfl)))
                have HA_HO164 := Aside0.mk (Q_HA_HO164 (hon 10 (by kernel_rfl)))
                refine value_ (w1 := w') (v := .string ((((((⟨#[112, 114, 101, 102, 32]⟩ : ByteArray) ++ t160) ++ (⟨#[32, 109, 101, 100, 32]⟩ : ByteArray)) ++ t161) ++ (⟨#[32, 111, 114, 105, 103, 105, 110, 32]⟩ : ByteArray)) ++ (rdOf ByteArray.empty ad ac))) (by rfl) rfl ?_ ?_
                ·go_simp
                 (try simp only [i64_w])
                 try rfl
                refine hK.out _ _ ⟨v163, adz_v163, m13_, (by rw [ha.out]; exact putSel_upk 12 hb_ rfl rfl rfl), Q_BK158, Q_HB, Q_HO164, Q_HA_HO164, Q_X13_⟩
               refine steps_cons ?_ ?_
               ·rintro b a w' ⟨v163, adz_v163, m13_, ha, Q_BK158, Q_HB, Q_HO164, Q_HA_HO164, Q_X13_⟩ hb_ hon hoff
                refine ⟨_, rfl, fun K hK => ?_⟩
                have e25 : a.tmps[25]? = some (.string ((((((⟨#[112, 114, 101, 102, 32]⟩ : ByteArray) ++ t160) ++ (⟨#[32, 109, 101, 100, 32]⟩ : ByteArray)) ++ t161) ++ (⟨#[32, 111, 114, 105, 103, 105, 110, 32]⟩ : ByteArray)) ++ (rdOf ByteArray.empty ad ac))) := by rw [ha]; exact putSel_on (e := (15, 25, .string ((((((⟨#[112, 114, 101, 102, 32]⟩ : ByteArray) ++ t160) ++ (⟨#[32, 109, 101, 100, 32]⟩ : ByteArray)) ++ t161) ++ (⟨#[32, 111, 114, 105, 103, 105, 110, 32]⟩ : ByteArray)) ++ (rdOf ByteArray.empty ad ac)))) 12 rfl rfl (hon 15 (by kernel_rfl)) rfl
                replace ha := Aside0.mk ha
                have aa := Aside0.mk Q_BK158
                have HB := Aside0.mk Q_HB
                have ap := Aside0.mk (Q_HO164 (hon 10 (by kernel_rfl)))
                have HA_HO164 := Aside0.mk (Q_HA_HO164 (hon 10 (by kernel_rfl)))
                refine value_ (w1 := w') (v := .string (((((((⟨#[112, 114, 101, 102, 32]⟩ : ByteArray) ++ t160) ++ (⟨#[32, 109, 101, 100, 32]⟩ : ByteArray)) ++ t161) ++ (⟨#[32, 111, 114, 105, 103, 105, 110, 32]⟩ : ByteArray)) ++ (rdOf ByteArray.empty ad ac)) ++ (⟨#[32, 112, 97, 116, 104, 32, 91]⟩ : ByteArray))) (by rfl) rfl ?_ ?_
                ·go_simp
                 (try simp only [i64_w])
                 try rfl
                refine hK.out _ _ ⟨v163, adz_v163, m13_, (by rw [ha.out]; exact putSel_upk 13 hb_ rfl rfl rfl), Q_BK158, Q_HB, Q_HO164, Q_HA_HO164, Q_X13_⟩
               refine steps_cons ?_ ?_
               ·rintro b a w' ⟨v163, adz_v163, m13_, ha, Q_BK158, Q_HB, Q_HO164, Q_HA_HO164, Q_X13_⟩ hb_ hon hoff
                refine ⟨_, rfl, fun K hK => ?_⟩
                have e27 : a.tmps[27]? = some (.pointer (some ⟨ab, 3, none⟩)) := by rw [ha]; exact (putSel_off rfl).trans rfl
                replace ha := Aside0.mk ha
                have aa := Aside0.mk Q_BK158
                have HB := Aside0.mk Q_HB
                have hc0_ : w'.cell? ⟨ab, 0, none⟩ = some (.int .i64 aj) := (blk_cell aa.out 0).trans rfl
                have hc1_ : w'.cell? ⟨ab, 1, none⟩ = some (.int .i64 ak) := (blk_cell aa.out 1).trans rfl
                have hc2_ : w'.cell? ⟨ab, 2, none⟩ = some (.int .i64 ac) := (blk_cell aa.out 2).trans rfl
                have hc3_ : w'.cell? ⟨ab, 3, none⟩ = some (.slice al ag.length am) := (blk_cell aa.out 3).trans rfl
                have hc4_ : w'.cell? ⟨ab, 4, none⟩ = some (.slice an ah.length ao) := (blk_cell aa.out 4).trans rfl
                have hc5_ : w'.cell? ⟨ab, 5, none⟩ = some (.int .i64 ai) := (blk_cell aa.out 5).trans rfl
                have hc6_ : w'.cell? ⟨ab, 6, none⟩ = some (.slice ar ae.length aq) := (blk_cell aa.out 6).trans rfl
                refine value_ (w1 := w') (v := .slice al ag.length am) (by rfl) rfl ?_ ?_
                ·go_simp
                 (try simp only [i64_w])
                 try rfl
                refine hK.out _ _ ⟨v163, adz_v163, m13_, (by rw [ha.out]; exact putSel_upk 14 hb_ rfl rfl rfl), Q_BK158, Q_HB, Q_HO164, Q_HA_HO164, Q_X13_⟩
               refine steps_cons ?_ ?_
               ·rintro b a w' ⟨v163, adz_v163, m13_, ha, Q_BK158, Q_HB, Q_HO164, Q_HA_HO164, Q_X13_⟩ hb_ hon hoff
                refine ⟨_, rfl, fun K hK => ?_⟩
                have e28 : a.tmps[28]? = some (.slice al ag.length am) := by rw [ha]; exact putSel_on (e := (18, 28, .slice al ag.length am)) 14 rfl rfl (hon 18 (by kernel_rfl)) rfl
                replace ha := Aside0.mk ha
                have aa := Aside0.mk Q_BK158
                have HB := Aside0.mk Q_HB
                refine goes_ Try.func38 (by kernel_rfl) rfl #[.slice al ag.length am] (by rfl) rfl rfl (by first | (simp only [List.map_toArray, List.map_cons, List.map_nil, Act.eval, Array.getD_eq_getD_getElem?, Option.getD_some, e28]; done) | (simp only [List.map_toArray, List.map_cons, List.map_nil, Act.eval, Array.getD_eq_getD_getElem?, Option.getD_some, e28]; rfl)) ?_
                with_reducible refine (aspath_Text.calls k _ _ ag t166 _ ?side1 ?side2 A14.out).mono ?_
                (case side1 => repeat (first | exact (Kd.C_below HR0_3.out HB.out) | (with_reducible refine Kd.C_alloc ?_ _) | (with_reducible refine Kd.C_drewN ?_ _) | (with_reducible refine Kd.C_drew ?_)))
                (case side2 => exact HC0_3.out)
                rintro e w28 ⟨rfl, hb⟩
                refine ⟨_, rfl, ?_⟩
                have n0_ := Aside0.mk (blk_below (g := ab) (by (with_reducible repeat (first | refine blk_drewN ?_ _ | refine blk_drew ?_ | refine blk_alloc ?_ _)); exact aa.out) hb)
                have n1_ := Aside0.mk (below_step (by repeat (first | (with_reducible first | exact HB.out | apply below_alloc | apply pw_below_drewN | apply below_drew1 | refine below_set ?_ af.out) | exact HB.out)) hb)
                have z_HO164 := fun (h0_ : b 10 = true) => (show Kd.R Kd.string 9 w28 w.heap.size (fun _ => True) v163 ad from by first | exact (Kd.R_below (by (with_reducible repeat (first | apply Kd.R_alloc | apply Kd.R_drewN | apply Kd.R_drew)); exact (Q_HO164 h0_)) hb) | exact Kd.R_mono (Kd.R_below (by (with_reducible repeat (first | apply Kd.R_alloc | apply Kd.R_drewN | apply Kd.R_drew)); exact (Q_HO164 h0_)) hb) (fun _ h_ => by first | trivial | exact h_ | exact h_.1))
                clear aa
                clear HB
                have aa := n0_
                have HB := n1_
                clear n0_ n1_
                (try clear hb)
                (try clear ay)
                (try clear hk)
                (try clear hi)
                refine hK.out _ _ ⟨v163, adz_v163, m13_, (by rw [ha.out]; exact putSel_upk 15 hb_ rfl rfl rfl), (by (with_reducible repeat (first | refine blk_drewN ?_ _ | refine blk_drew ?_ | refine blk_alloc ?_ _)); exact aa.out), (by repeat (first | (with_reducible first | exact HB.out | apply below_alloc | apply pw_below_drewN | apply below_drew1 | refine below_set ?_ af.out) | exact HB.out)), z_HO164, Q_HA_HO164, Q_X13_⟩
               refine steps_cons ?_ ?_
               ·rintro b a w' ⟨v163, adz_v163, m13_, ha, Q_BK158, Q_HB, Q_HO164, Q_HA_HO164, Q_X13_⟩ hb_ hon hoff
                refine ⟨_, rfl, fun K hK => ?_⟩
                have e26 : a.tmps[26]? = some (.string (((((((⟨#[112, 114, 101, 102, 32]⟩ : ByteArray) ++ t160) ++ (⟨#[32, 109, 101, 100, 32]⟩ : ByteArray)) ++ t161) ++ (⟨#[32, 111, 114, 105, 103, 105, 110, 32]⟩ : ByteArray)) ++ (rdOf ByteArray.empty ad ac)) ++ (⟨#[32, 112, 97, 116, 104, 32, 91]⟩ : ByteArray))) := by rw [ha]; exact putSel_on (e := (16, 26, .string (((((((⟨#[112, 114, 101, 102, 32]⟩ : ByteArray) ++ t160) ++ (⟨#[32, 109, 101, 100, 32]⟩ : ByteArray)) ++ t161) ++ (⟨#[32, 111, 114, 105, 103, 105, 110, 32]⟩ : ByteArray)) ++ (rdOf ByteArray.empty ad ac)) ++ (⟨#[32, 112, 97, 116, 104, 32, 91]⟩ : ByteArray)))) 13 rfl rfl (hon 16 (by kernel_rfl)) rfl
                have e29 : a.tmps[29]? = some (.string t166) := by rw [ha]; exact putSel_on (e := (19, 29, .string t166)) 15 rfl rfl (hon 19 (by kernel_rfl)) rfl
                replace ha := Aside0.mk ha
                have aa := Aside0.mk Q_BK158
                have HB := Aside0.mk Q_HB
                have ap := Aside0.mk (Q_HO164 (hon 10 (by kernel_rfl)))
                have HA_HO164 := Aside0.mk (Q_HA_HO164 (hon 10 (by kernel_rfl)))
                refine value_ (w1 := w') (v := .string ((((((((⟨#[112, 114, 101, 102, 32]⟩ : ByteArray) ++ t160) ++ (⟨#[32, 109, 101, 100, 32]⟩ : ByteArray)) ++ t161) ++ (⟨#[32, 111, 114, 105, 103, 105, 110, 32]⟩ : ByteArray)) ++ (rdOf ByteArray.empty ad ac)) ++ (⟨#[32, 112, 97, 116, 104, 32, 91]⟩ : ByteArray)) ++ t166)) (by rfl) rfl ?_ ?_
                ·go_simp
                 (try simp only [i64_w])
                 try rfl
                refine hK.out _ _ ⟨v163, adz_v163, m13_, (by rw [ha.out]; exact putSel_upk 16 hb_ rfl rfl rfl), Q_BK158, Q_HB, Q_HO164, Q_HA_HO164, Q_X13_⟩
               refine steps_cons ?_ ?_
               ·rintro b a w' ⟨v163, adz_v163, m13_, ha, Q_BK158, Q_HB, Q_HO164, Q_HA_HO164, Q_X13_⟩ hb_ hon hoff
                refine ⟨_, rfl, fun K hK => ?_⟩
                have e30 : a.tmps[30]? = some (.string ((((((((⟨#[112, 114, 101, 102, 32]⟩ : ByteArray) ++ t160) ++ (⟨#[32, 109, 101, 100, 32]⟩ : ByteArray)) ++ t161) ++ (⟨#[32, 111, 114, 105, 103, 105, 110, 32]⟩ : ByteArray)) ++ (rdOf ByteArray.empty ad ac)) ++ (⟨#[32, 112, 97, 116, 104, 32, 91]⟩ : ByteArray)) ++ t166)) := by rw [ha]; exact putSel_on (e := (20, 30, .string ((((((((⟨#[112, 114, 101, 102, 32]⟩ : ByteArray) ++ t160) ++ (⟨#[32, 109, 101, 100, 32]⟩ : ByteArray)) ++ t161) ++ (⟨#[32, 111, 114, 105, 103, 105, 110, 32]⟩ : ByteArray)) ++ (rdOf ByteArray.empty ad ac)) ++ (⟨#[32, 112, 97, 116, 104, 32, 91]⟩ : ByteArray)) ++ t166))) 16 rfl rfl (hon 20 (by kernel_rfl)) rfl
                replace ha := Aside0.mk ha
                have aa := Aside0.mk Q_BK158
                have HB := Aside0.mk Q_HB
                have ap := Aside0.mk (Q_HO164 (hon 10 (by kernel_rfl)))
                have HA_HO164 := Aside0.mk (Q_HA_HO164 (hon 10 (by kernel_rfl)))
                refine value_ (w1 := w') (v := .string (((((((((⟨#[112, 114, 101, 102, 32]⟩ : ByteArray) ++ t160) ++ (⟨#[32, 109, 101, 100, 32]⟩ : ByteArray)) ++ t161) ++ (⟨#[32, 111, 114, 105, 103, 105, 110, 32]⟩ : ByteArray)) ++ (rdOf ByteArray.empty ad ac)) ++ (⟨#[32, 112, 97, 116, 104, 32, 91]⟩ : ByteArray)) ++ t166) ++ (⟨#[93, 32, 99, 111, 109, 109, 115, 32, 91]⟩ : ByteArray))) (by rfl) rfl ?_ ?_
                ·go_simp
                 (try simp only [i64_w])
                 try rfl
                refine hK.out _ _ ⟨v163, adz_v163, m13_, (by rw [ha.out]; exact putSel_upk 17 hb_ rfl rfl rfl), Q_BK158, Q_HB, Q_HO164, Q_HA_HO164, Q_X13_⟩
               refine steps_cons ?_ ?_
               ·rintro b a w' ⟨v163, adz_v163, m13_, ha, Q_BK158, Q_HB, Q_HO164, Q_HA_HO164, Q_X13_⟩ hb_ hon hoff
                refine ⟨_, rfl, fun K hK => ?_⟩
                have e32 : a.tmps[32]? = some (.pointer (some ⟨ab, 4, none⟩)) := by rw [ha]; exact (putSel_off rfl).trans rfl
                replace ha := Aside0.mk ha
                have aa := Aside0.mk Q_BK158
                have HB := Aside0.mk Q_HB
                have hc0_ : w'.cell? ⟨ab, 0, none⟩ = some (.int .i64 aj) := (blk_cell aa.out 0).trans rfl
                have hc1_ : w'.cell? ⟨ab, 1, none⟩ = some (.int .i64 ak) := (blk_cell aa.out 1).trans rfl
                have hc2_ : w'.cell? ⟨ab, 2, none⟩ = some (.int .i64 ac) := (blk_cell aa.out 2).trans rfl
                have hc3_ : w'.cell? ⟨ab, 3, none⟩ = some (.slice al ag.length am) := (blk_cell aa.out 3).trans rfl
                have hc4_ : w'.cell? ⟨ab, 4, none⟩ = some (.slice an ah.length ao) := (blk_cell aa.out 4).trans rfl
                have hc5_ : w'.cell? ⟨ab, 5, none⟩ = some (.int .i64 ai) := (blk_cell aa.out 5).trans rfl
                have hc6_ : w'.cell? ⟨ab, 6, none⟩ = some (.slice ar ae.length aq) := (blk_cell aa.out 6).trans rfl
                refine value_ (w1 := w') (v := .slice an ah.length ao) (by rfl) rfl ?_ ?_
                ·go_simp
                 (try simp only [i64_w])
                 try rfl
                refine hK.out _ _ ⟨v163, adz_v163, m13_, (by rw [ha.out]; exact putSel_upk 18 hb_ rfl rfl rfl), Q_BK158, Q_HB, Q_HO164, Q_HA_HO164, Q_X13_⟩
               refine steps_cons ?_ ?_
               ·rintro b a w' ⟨v163, adz_v163, m13_, ha, Q_BK158, Q_HB, Q_HO164, Q_HA_HO164, Q_X13_⟩ hb_ hon hoff
                refine ⟨_, rfl, fun K hK => ?_⟩
                have e33 : a.tmps[33]? = some (.slice an ah.length ao) := by rw [ha]; exact putSel_on (e := (23, 33, .slice an ah.length ao)) 18 rfl rfl (hon 23 (by kernel_rfl)) rfl
                replace ha := Aside0.mk ha
                have aa := Aside0.mk Q_BK158
                have HB := Aside0.mk Q_HB
                refine goes_ Try.func39 (by kernel_rfl) rfl #[.slice an ah.length ao] (by rfl) rfl rfl (by first | (simp only [List.map_toArray, List.map_cons, List.map_nil, Act.eval, Array.getD_eq_getD_getElem?, Option.getD_some, e33]; done) | (simp only [List.map_toArray, List.map_cons, List.map_nil, Act.eval, Array.getD_eq_getD_getElem?, Option.getD_some, e33]; rfl)) ?_
                with_reducible refine (comm_Texts.calls k _ _ ah t167 _ ?side1 ?side2 A17.out).mono ?_
                (case side1 => repeat (first | exact (Kd.C_below HR0_4.out HB.out) | (with_reducible refine Kd.C_alloc ?_ _) | (with_reducible refine Kd.C_drewN ?_ _) | (with_reducible refine Kd.C_drew ?_)))
                (case side2 => exact HC0_4.out)
                rintro e w29 ⟨rfl, hb⟩
                refine ⟨_, rfl, ?_⟩
                have n0_ := Aside0.mk (blk_below (g := ab) (by (with_reducible repeat (first | refine blk_drewN ?_ _ | refine blk_drew ?_ | refine blk_alloc ?_ _)); exact aa.out) hb)
                have n1_ := Aside0.mk (below_step (by repeat (first | (with_reducible first | exact HB.out | apply below_alloc | apply pw_below_drewN | apply below_drew1 | refine below_set ?_ af.out) | exact HB.out)) hb)
                have z_HO164 := fun (h0_ : b 10 = true) => (show Kd.R Kd.string 9 w29 w.heap.size (fun _ => True) v163 ad from by first | exact (Kd.R_below (by (with_reducible repeat (first | apply Kd.R_alloc | apply Kd.R_drewN | apply Kd.R_drew)); exact (Q_HO164 h0_)) hb) | exact Kd.R_mono (Kd.R_below (by (with_reducible repeat (first | apply Kd.R_alloc | apply Kd.R_drewN | apply Kd.R_drew)); exact (Q_HO164 h0_)) hb) (fun _ h_ => by first | trivial | exact h_ | exact h_.1))
                clear aa
                clear HB
                have aa := n0_
                have HB := n1_
                clear n0_ n1_
                (try clear hb)
                (try clear ay)
                (try clear hk)
                (try clear hi)
                refine hK.out _ _ ⟨v163, adz_v163, m13_, (by rw [ha.out]; exact putSel_upk 19 hb_ rfl rfl rfl), (by (with_reducible repeat (first | refine blk_drewN ?_ _ | refine blk_drew ?_ | refine blk_alloc ?_ _)); exact aa.out), (by repeat (first | (with_reducible first | exact HB.out | apply below_alloc | apply pw_below_drewN | apply below_drew1 | refine below_set ?_ af.out) | exact HB.out)), z_HO164, Q_HA_HO164, Q_X13_⟩
               refine steps_cons ?_ ?_
               ·rintro b a w' ⟨v163, adz_v163, m13_, ha, Q_BK158, Q_HB, Q_HO164, Q_HA_HO164, Q_X13_⟩ hb_ hon hoff
                refine ⟨_, rfl, fun K hK => ?_⟩
                have e31 : a.tmps[31]? = some (.string (((((((((⟨#[112, 114, 101, 102, 32]⟩ : ByteArray) ++ t160) ++ (⟨#[32, 109, 101, 100, 32]⟩ : ByteArray)) ++ t161) ++ (⟨#[32, 111, 114, 105, 103, 105, 110, 32]⟩ : ByteArray)) ++ (rdOf ByteArray.empty ad ac)) ++ (⟨#[32, 112, 97, 116, 104, 32, 91]⟩ : ByteArray)) ++ t166) ++ (⟨#[93, 32, 99, 111, 109, 109, 115, 32, 91]⟩ : ByteArray))) := by rw [ha]; exact putSel_on (e := (21, 31, .string (((((((((⟨#[112, 114, 101, 102, 32]⟩ : ByteArray) ++ t160) ++ (⟨#[32, 109, 101, 100, 32]⟩ : ByteArray)) ++ t161) ++ (⟨#[32, 111, 114, 105, 103, 105, 110, 32]⟩ : ByteArray)) ++ (rdOf ByteArray.empty ad ac)) ++ (⟨#[32, 112, 97, 116, 104, 32, 91]⟩ : ByteArray)) ++ t166) ++ (⟨#[93, 32, 99, 111, 109, 109, 115, 32, 91]⟩ : ByteArray)))) 17 rfl rfl (hon 21 (by kernel_rfl)) rfl
                have e34 : a.tmps[34]? = some (.string t167) := by rw [ha]; exact putSel_on (e := (24, 34, .string t167)) 19 rfl rfl (hon 24 (by kernel_rfl)) rfl
                replace ha := Aside0.mk ha
                have aa := Aside0.mk Q_BK158
                have HB := Aside0.mk Q_HB
                have ap := Aside0.mk (Q_HO164 (hon 10 (by kernel_rfl)))
                have HA_HO164 := Aside0.mk (Q_HA_HO164 (hon 10 (by kernel_rfl)))
                refine value_ (w1 := w') (v := .string ((((((((((⟨#[112, 114, 101, 102, 32]⟩ : ByteArray) ++ t160) ++ (⟨#[32, 109, 101, 100, 32]⟩ : ByteArray)) ++ t161) ++ (⟨#[32, 111, 114, 105, 103, 105, 110, 32]⟩ : ByteArray)) ++ (rdOf ByteArray.empty ad ac)) ++ (⟨#[32, 112, 97, 116, 104, 32, 91]⟩ : ByteArray)) ++ t166) ++ (⟨#[93, 32, 99, 111, 109, 109, 115, 32, 91]⟩ : ByteArray)) ++ t167)) (by rfl) rfl ?_ ?_
                ·go_simp
                 (try simp only [i64_w])
                 try rfl
                refine hK.out _ _ ⟨v163, adz_v163, m13_, (by rw [ha.out]; exact putSel_upk 20 hb_ rfl rfl rfl), Q_BK158, Q_HB, Q_HO164, Q_HA_HO164, Q_X13_⟩
               refine steps_cons ?_ ?_
               ·rintro b a w' ⟨v163, adz_v163, m13_, ha, Q_BK158, Q_HB, Q_HO164, Q_HA_HO164, Q_X13_⟩ hb_ hon hoff
                refine ⟨_, rfl, fun K hK => ?_⟩
                have e35 : a.tmps[35]? = some (.string ((((((((((⟨#[112, 114, 101, 102, 32]⟩ : ByteArray) ++ t160) ++ (⟨#[32, 109, 101, 100, 32]⟩ : ByteArray)) ++ t161) ++ (⟨#[32, 111, 114, 105, 103, 105, 110, 32]⟩ : ByteArray)) ++ (rdOf ByteArray.empty ad ac)) ++ (⟨#[32, 112, 97, 116, 104, 32, 91]⟩ : ByteArray)) ++ t166) ++ (⟨#[93, 32, 99, 111, 109, 109, 115, 32, 91]⟩ : ByteArray)) ++ t167)) := by rw [ha]; exact putSel_on (e := (25, 35, .string ((((((((((⟨#[112, 114, 101, 102, 32]⟩ : ByteArray) ++ t160) ++ (⟨#[32, 109, 101, 100, 32]⟩ : ByteArray)) ++ t161) ++ (⟨#[32, 111, 114, 105, 103, 105, 110, 32]⟩ : ByteArray)) ++ (rdOf ByteArray.empty ad ac)) ++ (⟨#[32, 112, 97, 116, 104, 32, 91]⟩ : ByteArray)) ++ t166) ++ (⟨#[93, 32, 99, 111, 109, 109, 115, 32, 91]⟩ : ByteArray)) ++ t167))) 20 rfl rfl (hon 25 (by kernel_rfl)) rfl
                replace ha := Aside0.mk ha
                have aa := Aside0.mk Q_BK158
                have HB := Aside0.mk Q_HB
                have ap := Aside0.mk (Q_HO164 (hon 10 (by kernel_rfl)))
                have HA_HO164 := Aside0.mk (Q_HA_HO164 (hon 10 (by kernel_rfl)))
                refine value_ (w1 := w') (v := .string (((((((((((⟨#[112, 114, 101, 102, 32]⟩ : ByteArray) ++ t160) ++ (⟨#[32, 109, 101, 100, 32]⟩ : ByteArray)) ++ t161) ++ (⟨#[32, 111, 114, 105, 103, 105, 110, 32]⟩ : ByteArray)) ++ (rdOf ByteArray.empty ad ac)) ++ (⟨#[32, 112, 97, 116, 104, 32, 91]⟩ : ByteArray)) ++ t166) ++ (⟨#[93, 32, 99, 111, 109, 109, 115, 32, 91]⟩ : ByteArray)) ++ t167) ++ (⟨#[93]⟩ : ByteArray))) (by rfl) rfl ?_ ?_
                ·go_simp
                 (try simp only [i64_w])
                 try rfl
                refine hK.out _ _ ⟨v163, adz_v163, m13_, (by rw [ha.out]; exact putSel_upk 21 hb_ rfl rfl rfl), Q_BK158, Q_HB, Q_HO164, Q_HA_HO164, Q_X13_⟩
               refine steps_cons ?_ ?_
               ·rintro b a w' ⟨v163, adz_v163, m13_, ha, Q_BK158, Q_HB, Q_HO164, Q_HA_HO164, Q_X13_⟩ hb_ hon hoff
                refine ⟨_, rfl, fun K hK => ?_⟩
                have e36 : a.tmps[36]? = some (.string (((((((((((⟨#[112, 114, 101, 102, 32]⟩ : ByteArray) ++ t160) ++ (⟨#[32, 109, 101, 100, 32]⟩ : ByteArray)) ++ t161) ++ (⟨#[32, 111, 114, 105, 103, 105, 110, 32]⟩ : ByteArray)) ++ (rdOf ByteArray.empty ad ac)) ++ (⟨#[32, 112, 97, 116, 104, 32, 91]⟩ : ByteArray)) ++ t166) ++ (⟨#[93, 32, 99, 111, 109, 109, 115, 32, 91]⟩ : ByteArray)) ++ t167) ++ (⟨#[93]⟩ : ByteArray))) := by rw [ha]; exact putSel_on (e := (26, 36, .string (((((((((((⟨#[112, 114, 101, 102, 32]⟩ : ByteArray) ++ t160) ++ (⟨#[32, 109, 101, 100, 32]⟩ : ByteArray)) ++ t161) ++ (⟨#[32, 111, 114, 105, 103, 105, 110, 32]⟩ : ByteArray)) ++ (rdOf ByteArray.empty ad ac)) ++ (⟨#[32, 112, 97, 116, 104, 32, 91]⟩ : ByteArray)) ++ t166) ++ (⟨#[93, 32, 99, 111, 109, 109, 115, 32, 91]⟩ : ByteArray)) ++ t167) ++ (⟨#[93]⟩ : ByteArray)))) 21 rfl rfl (hon 26 (by kernel_rfl)) rfl
                replace ha := Aside0.mk ha
                have aa := Aside0.mk Q_BK158
                have HB := Aside0.mk Q_HB
                have ap := Aside0.mk (Q_HO164 (hon 10 (by kernel_rfl)))
                have HA_HO164 := Aside0.mk (Q_HA_HO164 (hon 10 (by kernel_rfl)))
                refine value_ (w1 := w') (v := .string (((((((((((⟨#[112, 114, 101, 102, 32]⟩ : ByteArray) ++ t160) ++ (⟨#[32, 109, 101, 100, 32]⟩ : ByteArray)) ++ t161) ++ (⟨#[32, 111, 114, 105, 103, 105, 110, 32]⟩ : ByteArray)) ++ (rdOf ByteArray.empty ad ac)) ++ (⟨#[32, 112, 97, 116, 104, 32, 91]⟩ : ByteArray)) ++ t166) ++ (⟨#[93, 32, 99, 111, 109, 109, 115, 32, 91]⟩ : ByteArray)) ++ t167) ++ (⟨#[93]⟩ : ByteArray))) (by rfl) rfl ?_ ?_
                ·go_simp
                 (try simp only [i64_w])
                 try rfl
                refine hK.out _ _ ⟨v163, adz_v163, m13_, (by rw [ha.out]; exact putSel_upk 22 hb_ rfl rfl rfl), Q_BK158, Q_HB, Q_HO164, Q_HA_HO164, Q_X13_⟩
               exact steps_nil
              rintro b a w32 hall ⟨v163, adz_v163, m13_, ha, Q_BK158, Q_HB, Q_HO164, Q_HA_HO164, Q_X13_⟩
              clear aa HB
              have hb1_ := hall 1 (by kernel_rfl)
              have hb2_ := hall 2 (by kernel_rfl)
              have hb3_ := hall 3 (by kernel_rfl)
              have hb4_ := hall 4 (by kernel_rfl)
              have hb6_ := hall 6 (by kernel_rfl)
              have hb7_ := hall 7 (by kernel_rfl)
              have hb8_ := hall 8 (by kernel_rfl)
              have hb9_ := hall 9 (by kernel_rfl)
              have hb10_ := hall 10 (by kernel_rfl)
              have hb12_ := hall 12 (by kernel_rfl)
              have hb13_ := hall 13 (by kernel_rfl)
              have hb14_ := hall 14 (by kernel_rfl)
              have hb15_ := hall 15 (by kernel_rfl)
              have hb16_ := hall 16 (by kernel_rfl)
              have hb18_ := hall 18 (by kernel_rfl)
              have hb19_ := hall 19 (by kernel_rfl)
              have hb20_ := hall 20 (by kernel_rfl)
              have hb21_ := hall 21 (by kernel_rfl)
              have hb23_ := hall 23 (by kernel_rfl)
              have hb24_ := hall 24 (by kernel_rfl)
              have hb25_ := hall 25 (by kernel_rfl)
              have hb26_ := hall 26 (by kernel_rfl)
              have hb27_ := hall 27 (by kernel_rfl)
              subst ha
              obtain rfl := Q_X13_ hb13_
              simp only [putSel, hb1_, hb2_, hb3_, hb4_, hb6_, hb7_, hb8_, hb9_, hb10_, hb12_, hb13_, hb14_, hb15_, hb16_, hb18_, hb19_, hb20_, hb21_, hb23_, hb24_, hb25_, hb26_, hb27_, if_true, Act.put, List.setIfInBounds_toArray, List.set_cons_zero, List.set_cons_succ]
              have aa := Aside0.mk Q_BK158
              clear Q_BK158
              have HB := Aside0.mk Q_HB
              clear Q_HB
              have ap := Aside0.mk (Q_HO164 hb10_)
              clear Q_HO164
              have HA_HO164 := Aside0.mk (Q_HA_HO164 hb10_)
              clear Q_HA_HO164
              clear hall hb1_ hb2_ hb3_ hb4_ hb6_ hb7_ hb8_ hb9_ hb10_ hb12_ hb13_ hb14_ hb15_ hb16_ hb18_ hb19_ hb20_ hb21_ hb23_ hb24_ hb25_ hb26_ hb27_
              obtain ⟨co33, eo33⟩ := HA_HO164.out
              clear HA_HO164
              subst eo33
              have hcz34_0 : w32.cell? ⟨ab, 0, none⟩ = some (.int .i64 aj) := (blk_cell aa.out 0).trans rfl
              have hcz34_1 : w32.cell? ⟨ab, 1, none⟩ = some (.int .i64 ak) := (blk_cell aa.out 1).trans rfl
              have hcz34_2 : w32.cell? ⟨ab, 2, none⟩ = some (.int .i64 ac) := (blk_cell aa.out 2).trans rfl
              have hcz34_3 : w32.cell? ⟨ab, 3, none⟩ = some (.slice al ag.length am) := (blk_cell aa.out 3).trans rfl
              have hcz34_4 : w32.cell? ⟨ab, 4, none⟩ = some (.slice an ah.length ao) := (blk_cell aa.out 4).trans rfl
              have hcz34_5 : w32.cell? ⟨ab, 5, none⟩ = some (.int .i64 ai) := (blk_cell aa.out 5).trans rfl
              have hcz34_6 : w32.cell? ⟨ab, 6, none⟩ = some (.slice ar ae.length aq) := (blk_cell aa.out 6).trans rfl
              have hfz34_0 := blk_frozen aa.out 0
              have hfz34_1 := blk_frozen aa.out 1
              have hfz34_2 := blk_frozen aa.out 2
              have hfz34_3 := blk_frozen aa.out 3
              have hfz34_4 := blk_frozen aa.out 4
              have hfz34_5 := blk_frozen aa.out 5
              have hfz34_6 := blk_frozen aa.out 6
              go_upto_if 39 with (fail)
              go_cut [3] (fun v3 wc => ∃ (kq : Nat) (x3_19 : ByteArray), v3 = .string x3_19 ∧ Aside0 (attr_Text.j0 kq x3_19 aj ak ac ag ah ai ae = some r) ∧ Aside0 (kq ≤ k) ∧ Aside0 (wc.heap[ab]? = some (.cells #[.int .i64 aj, .int .i64 ak, .int .i64 ac, (.slice al ag.length am), (.slice an ah.length ao), .int .i64 ai, (.slice ar ae.length aq)] 30 (0, 0))) ∧ Aside0 (Below w.heap.size w wc))
              case first =>
               have H := HC20.out
               clear HC20
               by_cases az : ai > 0
               ·rw [if_pos az] at H
                have c35b0 : decide (0 < ai) = true := decide_eq_true az
                clear az
                (first | rw [c35b0] | (simp only [i64_w, i32_w]; rw [c35b0]) | skip)
                replace H := Option.bind_eq_some_iff.mp H
                obtain ⟨t168, A360, H⟩ := H
                (try dsimp only at H)
                have A36 := Aside0.mk A360
                clear A360
                by_cases c37 : 6 + t168.size ≤ 9223372036854775807
                ·rw [if_pos c37] at H
                 have c37b0 := eq_true c37
                 have c37b1 : decide (6 + t168.size ≤ 9223372036854775807) = true := decide_eq_true c37
                 try have c37b2 : (9223372036854775807 < 6 + t168.size) = False := eq_false (Nat.not_lt.2 c37)
                 by_cases a7 : (((((((((((⟨#[112, 114, 101, 102, 32]⟩ : ByteArray) ++ t160) ++ (⟨#[32, 109, 101, 100, 32]⟩ : ByteArray)) ++ t161) ++ (⟨#[32, 111, 114, 105, 103, 105, 110, 32]⟩ : ByteArray)) ++ (rdOf ByteArray.empty ad ac)) ++ (⟨#[32, 112, 97, 116, 104, 32, 91]⟩ : ByteArray)) ++ t166) ++ (⟨#[93, 32, 99, 111, 109, 109, 115, 32, 91]⟩ : ByteArray)) ++ t167) ++ (⟨#[93]⟩ : ByteArray)).size + ((⟨#[32, 102, 114, 111, 109, 32]⟩ : ByteArray) ++ t168).size ≤ 9223372036854775807
                 ·rw [if_pos a7] at H
                  have c38b0 := eq_true a7
                  have c38b1 : decide ((((((((((((⟨#[112, 114, 101, 102, 32]⟩ : ByteArray) ++ t160) ++ (⟨#[32, 109, 101, 100, 32]⟩ : ByteArray)) ++ t161) ++ (⟨#[32, 111, 114, 105, 103, 105, 110, 32]⟩ : ByteArray)) ++ (rdOf ByteArray.empty ad ac)) ++ (⟨#[32, 112, 97, 116, 104, 32, 91]⟩ : ByteArray)) ++ t166) ++ (⟨#[93, 32, 99, 111, 109, 109, 115, 32, 91]⟩ : ByteArray)) ++ t167) ++ (⟨#[93]⟩ : ByteArray)).size + ((⟨#[32, 102, 114, 111, 109, 32]⟩ : ByteArray) ++ t168).size ≤ 9223372036854775807) = true := decide_eq_true a7
                  try have c38b2 : (9223372036854775807 < (((((((((((⟨#[112, 114, 101, 102, 32]⟩ : ByteArray) ++ t160) ++ (⟨#[32, 109, 101, 100, 32]⟩ : ByteArray)) ++ t161) ++ (⟨#[32, 111, 114, 105, 103, 105, 110, 32]⟩ : ByteArray)) ++ (rdOf ByteArray.empty ad ac)) ++ (⟨#[32, 112, 97, 116, 104, 32, 91]⟩ : ByteArray)) ++ t166) ++ (⟨#[93, 32, 99, 111, 109, 109, 115, 32, 91]⟩ : ByteArray)) ++ t167) ++ (⟨#[93]⟩ : ByteArray)).size + ((⟨#[32, 102, 114, 111, 109, 32]⟩ : ByteArray) ++ t168).size) = False := eq_false (Nat.not_lt.2 a7)
                  try have c38b3 : (9223372036854775807 < 5 + t160.size + 5 + t161.size + 8 + ((rdOf ByteArray.empty ad ac)).size + 7 + t166.size + 9 + t167.size + 1 + (6 + t168.size)) = False := eq_false (Nat.not_lt.2 (by have h_ := a7; simp only [ByteArray.size_append] at h_; exact h_))
                  have H' := Aside0.mk H
                  clear H
                  have hcz39_0 : w32.cell? ⟨ab, 0, none⟩ = some (.int .i64 aj) := (blk_cell aa.out 0).trans rfl
                  have hcz39_1 : w32.cell? ⟨ab, 1, none⟩ = some (.int .i64 ak) := (blk_cell aa.out 1).trans rfl
                  have hcz39_2 : w32.cell? ⟨ab, 2, none⟩ = some (.int .i64 ac) := (blk_cell aa.out 2).trans rfl
                  have hcz39_3 : w32.cell? ⟨ab, 3, none⟩ = some (.slice al ag.length am) := (blk_cell aa.out 3).trans rfl
                  have hcz39_4 : w32.cell? ⟨ab, 4, none⟩ = some (.slice an ah.length ao) := (blk_cell aa.out 4).trans rfl
                  have hcz39_5 : w32.cell? ⟨ab, 5, none⟩ = some (.int .i64 ai) := (blk_cell aa.out 5).trans rfl
                  have hcz39_6 : w32.cell? ⟨ab, 6, none⟩ = some (.slice ar ae.length aq) := (blk_cell aa.out 6).trans rfl
                  have hfz39_0 := blk_frozen aa.out 0
                  have hfz39_1 := blk_frozen aa.out 1
                  have hfz39_2 := blk_frozen aa.out 2
                  have hfz39_3 := blk_frozen aa.out 3
                  have hfz39_4 := blk_frozen aa.out 4
                  have hfz39_5 := blk_frozen aa.out 5
                  have hfz39_6 := blk_frozen aa.out 6
                  go_wp2_with (first | ((with_reducible refine gate_callee (f := 37) rfl ?_); refine goesL_ (some 43) rfl rfl Try.func37 (by kernel_rfl) rfl #[.int .i64 ai] rfl (by (try simp only [List.map_toArray, List.map_cons, List.map_nil]); first | done | rfl) ?_; (with_reducible refine (attr_digits.calls ai t168 _ A36.out).mono ?_); rintro e w40 ⟨rfl, hb⟩; refine ⟨_, rfl, ?_⟩; replace ap := Aside0.mk (Kd.R_below (by (with_reducible repeat (first | apply Kd.R_alloc | apply Kd.R_drewN | apply Kd.R_drew)); exact ap.out) hb); replace aa := Aside0.mk (blk_below (g := ab) (by (with_reducible repeat (first | refine blk_drewN ?_ _ | refine blk_drew ?_ | refine blk_alloc ?_ _)); exact aa.out) hb); replace HB := Aside0.mk (below_step (by repeat (first | (with_reducible first | exact HB.out | apply below_alloc | apply pw_below_drewN | apply below_drew1 | refine below_set ?_ af.out) | exact HB.out)) hb); (try clear hb); (try clear ay); (try clear hk); (try clear hi)))
                  go_meet
                  case rel => exact ⟨_, ((((((((((((⟨#[112, 114, 101, 102, 32]⟩ : ByteArray) ++ t160) ++ (⟨#[32, 109, 101, 100, 32]⟩ : ByteArray)) ++ t161) ++ (⟨#[32, 111, 114, 105, 103, 105, 110, 32]⟩ : ByteArray)) ++ (rdOf ByteArray.empty ad ac)) ++ (⟨#[32, 112, 97, 116, 104, 32, 91]⟩ : ByteArray)) ++ t166) ++ (⟨#[93, 32, 99, 111, 109, 109, 115, 32, 91]⟩ : ByteArray)) ++ t167) ++ (⟨#[93]⟩ : ByteArray)) ++ ((⟨#[32, 102, 114, 111, 109, 32]⟩ : ByteArray) ++ t168)), (by first | rfl | (simp; done) | (simp [*]; done)), H', ⟨by first | omega | exact Nat.le_refl _⟩, ⟨by (with_reducible repeat (first | refine blk_drewN ?_ _ | refine blk_drew ?_ | refine blk_alloc ?_ _)); exact aa.out⟩, ⟨by repeat (first | (with_reducible first | exact HB.out | apply below_alloc | apply pw_below_drewN | apply below_drew1 | refine below_set ?_ af.out) | exact HB.out)⟩⟩
                 ·rw [if_neg a7] at H
                  exact absurd H (by simp)
                ·rw [if_neg c37] at H
                 exact absurd H (by simp)
               ·rw [if_neg az] at H
                have c35b0 : decide (0 < ai) = false := decide_eq_false az
                clear az
                (first | rw [c35b0] | (simp only [i64_w, i32_w]; rw [c35b0]) | skip)
                have H' := Aside0.mk H
                clear H
                go_wp2
                go_meet
                case rel => exact ⟨_, (((((((((((⟨#[112, 114, 101, 102, 32]⟩ : ByteArray) ++ t160) ++ (⟨#[32, 109, 101, 100, 32]⟩ : ByteArray)) ++ t161) ++ (⟨#[32, 111, 114, 105, 103, 105, 110, 32]⟩ : ByteArray)) ++ (rdOf ByteArray.empty ad ac)) ++ (⟨#[32, 112, 97, 116, 104, 32, 91]⟩ : ByteArray)) ++ t166) ++ (⟨#[93, 32, 99, 111, 109, 109, 115, 32, 91]⟩ : ByteArray)) ++ t167) ++ (⟨#[93]⟩ : ByteArray)), (by first | rfl | (simp; done) | (simp [*]; done)), H', ⟨by first | omega | exact Nat.le_refl _⟩, ⟨by (with_reducible repeat (first | refine blk_drewN ?_ _ | refine blk_drew ?_ | refine blk_alloc ?_ _)); exact aa.out⟩, ⟨by repeat (first | (with_reducible first | exact HB.out | apply below_alloc | apply pw_below_drewN | apply below_drew1 | refine below_set ?_ af.out) | exact HB.out)⟩⟩
              case rest =>
               clear HC20
               try clear c1
               try clear qi1
               try clear c2
               try clear p2
               try clear c3
               try clear c4
               try clear c5
               try clear c6
               try clear c14
               try clear au
               try clear av
               try clear c16b2
               try clear qi16
               try clear aw
               try clear c18b0
               try clear c18b1
               try clear c18b2
               try clear ax
               try clear c19b0
               try clear c19b1
               try clear c19b2
               try clear az
               try clear c35b0
               try clear c37
               try clear c37b0
               try clear c37b1
               try clear c37b2
               try clear a7
               try clear c38b0
               try clear c38b1
               try clear c38b2
               try clear c39
               try clear hcz22_0
               try clear hcz22_1
               try clear hcz22_2
               try clear hcz22_3
               try clear hcz22_4
               try clear hcz22_5
               try clear hcz22_6
               try clear hcz34_0
               try clear hcz34_1
               try clear hcz34_2
               try clear hcz34_3
               try clear hcz34_4
               try clear hcz34_5
               try clear hcz34_6
               try clear hcz39_0
               try clear hcz39_1
               try clear hcz39_2
               try clear hcz39_3
               try clear hcz39_4
               try clear hcz39_5
               try clear hcz39_6
               try clear hfz22_0
               try clear hfz22_1
               try clear hfz22_2
               try clear hfz22_3
               try clear hfz22_4
               try clear hfz22_5
               try clear hfz22_6
               try clear hfz34_0
               try clear hfz34_1
               try clear hfz34_2
               try clear hfz34_3
               try clear hfz34_4
               try clear hfz34_5
               try clear hfz34_6
               try clear hfz39_0
               try clear hfz39_1
               try clear hfz39_2
               try clear hfz39_3
               try clear hfz39_4
               try clear hfz39_5
               try clear hfz39_6
               obtain ⟨kq, x3_19, rfl, HA, HJ19, aa, HB⟩ := hcut
               cases kq with
               | zero => exact absurd HA.out (by simp [attr_Text.j0])
               | succ kj19 =>
                have H := HA.out
                clear HA
                simp only [attr_Text.j0] at H
                by_cases c41 : (ae.length : Int) > 0
                ·rw [if_pos c41] at H
                 have c41b0 : decide (0 < (ae.length : Int)) = true := decide_eq_true c41
                 have c41b1 : decide (0 < ae.length) = true := decide_eq_true (by omega)
                 clear c41
                 have H' := Aside0.mk H
                 clear H
                 have hcz42_0 : wc.cell? ⟨ab, 0, none⟩ = some (.int .i64 aj) := (blk_cell aa.out 0).trans rfl
                 have hcz42_1 : wc.cell? ⟨ab, 1, none⟩ = some (.int .i64 ak) := (blk_cell aa.out 1).trans rfl
                 have hcz42_2 : wc.cell? ⟨ab, 2, none⟩ = some (.int .i64 ac) := (blk_cell aa.out 2).trans rfl
                 have hcz42_3 : wc.cell? ⟨ab, 3, none⟩ = some (.slice al ag.length am) := (blk_cell aa.out 3).trans rfl
                 have hcz42_4 : wc.cell? ⟨ab, 4, none⟩ = some (.slice an ah.length ao) := (blk_cell aa.out 4).trans rfl
                 have hcz42_5 : wc.cell? ⟨ab, 5, none⟩ = some (.int .i64 ai) := (blk_cell aa.out 5).trans rfl
                 have hcz42_6 : wc.cell? ⟨ab, 6, none⟩ = some (.slice ar ae.length aq) := (blk_cell aa.out 6).trans rfl
                 have hfz42_0 := blk_frozen aa.out 0
                 have hfz42_1 := blk_frozen aa.out 1
                 have hfz42_2 := blk_frozen aa.out 2
                 have hfz42_3 := blk_frozen aa.out 3
                 have hfz42_4 := blk_frozen aa.out 4
                 have hfz42_5 := blk_frozen aa.out 5
                 have hfz42_6 := blk_frozen aa.out 6
                 go_wp2
                 go_loopg [4, 53] kj19 (fun kq v4 v53 w' => ∃ (x4_2 : List ByteArray) (x53_2 : Int), v53 = .int .i64 x53_2 ∧ Aside0 (attr_Text.l0 kq x3_19 x4_2 ae (ae.length : Int) x53_2 = some r) ∧ Aside0 (kq ≤ kj19) ∧ Aside0 (Kd.R Kd.string 9 w' w.heap.size (fun _ => True) v4 x4_2) ∧ Aside0 (w'.heap[ab]? = some (.cells #[.int .i64 aj, .int .i64 ak, .int .i64 ac, (.slice al ag.length am), (.slice an ah.length ao), .int .i64 ai, (.slice ar ae.length aq)] 30 (0, 0))) ∧ Aside0 (Below w.heap.size w w'))
                 case atStart => exact ⟨(([] : List ByteArray)), (0), (by first | rfl | (simp; done) | (simp [*]; done)), H', ⟨Nat.le_refl _⟩, ⟨by first | exact Kd.R_nil _ _ _ _ _ | exact Kd.N_nil _ _ _ _ _ | exact Kd.V_nil _ _ _ _ _ | exact Kd.Q_nil _ _ _ _ _ | exact Kd.S_nil _ _ _ _ _⟩, ⟨by (with_reducible repeat (first | refine blk_drewN ?_ _ | refine blk_drew ?_ | refine blk_alloc ?_ _)); exact aa.out⟩, ⟨by repeat (first | (with_reducible first | exact HB.out | apply below_alloc | apply pw_below_drewN | apply below_drew1 | refine below_set ?_ af.out) | exact HB.out)⟩⟩
                 case round =>
                  clear H'
                  try clear c1
                  try clear qi1
                  try clear c2
                  try clear p2
                  try clear c3
                  try clear c4
                  try clear c5
                  try clear c6
                  try clear c14
                  try clear au
                  try clear av
                  try clear c16b2
                  try clear qi16
                  try clear aw
                  try clear c18b0
                  try clear c18b1
                  try clear c18b2
                  try clear ax
                  try clear c19b0
                  try clear c19b1
                  try clear c19b2
                  try clear az
                  try clear c35b0
                  try clear c37
                  try clear c37b0
                  try clear c37b1
                  try clear c37b2
                  try clear a7
                  try clear c38b0
                  try clear c38b1
                  try clear c38b2
                  try clear c39
                  try clear c41
                  try clear c41b0
                  try clear c41b1
                  try clear hcz22_0
                  try clear hcz22_1
                  try clear hcz22_2
                  try clear hcz22_3
                  try clear hcz22_4
                  try clear hcz22_5
                  try clear hcz22_6
                  try clear hcz34_0
                  try clear hcz34_1
                  try clear hcz34_2
                  try clear hcz34_3
                  try clear hcz34_4
                  try clear hcz34_5
                  try clear hcz34_6
                  try clear hcz39_0
                  try clear hcz39_1
                  try clear hcz39_2
                  try clear hcz39_3
                  try clear hcz39_4
                  try clear hcz39_5
                  try clear hcz39_6
                  try clear hcz42_0
                  try clear hcz42_1
                  try clear hcz42_2
                  try clear hcz42_3
                  try clear hcz42_4
                  try clear hcz42_5
                  try clear hcz42_6
                  try clear hfz22_0
                  try clear hfz22_1
                  try clear hfz22_2
                  try clear hfz22_3
                  try clear hfz22_4
                  try clear hfz22_5
                  try clear hfz22_6
                  try clear hfz34_0
                  try clear hfz34_1
                  try clear hfz34_2
                  try clear hfz34_3
                  try clear hfz34_4
                  try clear hfz34_5
                  try clear hfz34_6
                  try clear hfz39_0
                  try clear hfz39_1
                  try clear hfz39_2
                  try clear hfz39_3
                  try clear hfz39_4
                  try clear hfz39_5
                  try clear hfz39_6
                  try clear hfz42_0
                  try clear hfz42_1
                  try clear hfz42_2
                  try clear hfz42_3
                  try clear hfz42_4
                  try clear hfz42_5
                  try clear hfz42_6
                  try clear p2
                  obtain ⟨x4_2, x53_2, rfl, HA, HK2, HO_4, aa, HB⟩ := hrel
                  cases gk with
                  | zero => exact absurd HA.out (by simp [attr_Text.l0])
                  | succ k2 =>
                   have H := HA.out
                   clear HA
                   simp only [attr_Text.l0] at H
                   by_cases c43 : x53_2 < (ae.length : Int)
                   ·rw [if_pos c43] at H
                    have c43b0 : decide (x53_2 < (ae.length : Int)) = true := decide_eq_true c43
                    clear c43
                    by_cases c44 : 0 ≤ x53_2
                    ·rw [if_pos c44] at H
                     have c44b0 : decide (0 ≤ x53_2) = true := decide_eq_true c44
                     clear c44
                     by_cases c45 : x53_2 < (ae.length : Int)
                     ·rw [if_pos c45] at H
                      have c45b0 : decide (x53_2 < (ae.length : Int)) = true := decide_eq_true c45
                      clear c45
                      replace H := Option.bind_eq_some_iff.mp H
                      obtain ⟨t170, A460, H⟩ := H
                      (try dsimp only at H)
                      have A46 := Aside0.mk A460
                      clear A460
                      by_cases c47 : x4_2.length < 8796093022208
                      ·rw [if_pos c47] at H
                       have LMc47 := Aside0.mk c47
                       clear c47
                       obtain ⟨y171, hy171⟩ : ∃ y_ : List ByteArray, y_ = (x4_2 ++ [t170]) := ⟨_, rfl⟩
                       replace H : (attr_Text.l0 k2 x3_19 y171 ae (ae.length : Int) (wrap64 (x53_2 + 1))) = some r := by first | (rw [hy171]; with_reducible exact H) | (have H2_ := (Option.bind_some _ _).symm.trans H; rw [hy171]; with_reducible exact H2_) | (have H2_ := (Option.bind_some _ _).symm.trans H; with_reducible exact H2_) | with_reducible exact H | (rw [hy171]; exact H) | exact H
                       have Ny171 := Aside0.mk hy171
                       clear hy171
                       have H' := Aside0.mk H
                       clear H
                       have p169 : 0 ≤ (x53_2 : Int) := of_decide_eq_true (by first | (with_reducible assumption) | assumption)
                       have q169 : x53_2 < (ae.length : Int) := of_decide_eq_true (by first | (with_reducible assumption) | assumption)
                       obtain ⟨ad169, e169, hx169_0⟩ := Kd.at_int HR0_6.out x53_2 p169 q169
                       cases e169
                       replace hx169_0 := (HB.out.cell (World.block_lt_of_cell? w _ hx169_0)).trans hx169_0
                       replace p169 := eq_true p169
                       replace q169 := eq_true q169
                       go_wp2_with (first | ((with_reducible refine gate_callee (f := 37) rfl ?_); refine goesL_ (some 59) rfl rfl Try.func37 (by kernel_rfl) rfl #[.int .i64 (rd ae x53_2)] rfl (by (try simp only [List.map_toArray, List.map_cons, List.map_nil]); first | done | rfl) ?_; (with_reducible refine (attr_digits.calls (rd ae x53_2) t170 _ A46.out).mono ?_); rintro e w48 ⟨rfl, hb⟩; refine ⟨_, rfl, ?_⟩; replace HO_4 := Aside0.mk (Kd.R_below (by (with_reducible repeat (first | apply Kd.R_alloc | apply Kd.R_drewN | apply Kd.R_drew)); exact HO_4.out) hb); replace aa := Aside0.mk (blk_below (g := ab) (by (with_reducible repeat (first | refine blk_drewN ?_ _ | refine blk_drew ?_ | refine blk_alloc ?_ _)); exact aa.out) hb); replace HB := Aside0.mk (below_step (by repeat (first | (with_reducible first | exact HB.out | apply below_alloc | apply pw_below_drewN | apply below_drew1 | refine below_set ?_ af.out) | exact HB.out)) hb); (try clear hb); (try clear ay); (try clear hk); (try clear hi)) | ((with_reducible refine gate_builtin (b := .append) (xs := #[.tmp 57, .tmp 60]) rfl ?_); at_builtin; refine Kd.R_append Kd.string (w0 := w) w.heap.size rfl (.tmp 57) (.tmp 60) 52 9 (.string ⟨#[]⟩) 16 rfl Try.underlying52 info9 rfl (by decide) (by omega) u4 x4_2 t170 [.string t170] (fun _ => True) (fun _ => False) rfl rfl ?aP (fun _ hk => hk.elim) ?aF ?aO ?aB ?aS ?aL ?_; (case aP => exact rfl); (case aB => exact (by repeat (first | (with_reducible first | exact HB.out | apply below_alloc | apply pw_below_drewN | apply below_drew1 | refine below_set ?_ af.out) | exact HB.out))); (case aF => exact (fun _ _ => trivial)); (case aO => exact (by (with_reducible repeat (first | apply Kd.R_alloc | apply Kd.R_drewN | apply Kd.R_drew)); exact HO_4.out)); (case aS => exact (below_size (by repeat (first | (with_reducible first | exact HB.out | apply below_alloc | apply pw_below_drewN | apply below_drew1 | refine below_set ?_ af.out) | exact HB.out)))); (case aL => have := LMc47.out; omega); intro v172 w49 ho hb hg hat; rw [← Ny171.out] at ho; replace aa := Aside0.mk (blk_grown (g := ab) (o := .cells #[.int .i64 aj, .int .i64 ak, .int .i64 ac, .slice al ag.length am, .slice an ah.length ao, .int .i64 ai, .slice (some ad169) ae.length aq] 30 (0, 0)) (by (with_reducible repeat (first | refine blk_drewN ?_ _ | refine blk_drew ?_ | refine blk_alloc ?_ _)); exact aa.out) hg (Kd.R_ne HO_4.out aa.out (by decide))); replace HB := Aside0.mk (hb); have HO173 := Aside0.mk (ho); clear HO_4; clear ho hb hg hat))
                       go_roundg k2
                       case measure => have := HJ19.out; have := HK2.out; omega
                       case rel => exact ⟨(y171), (wrap64 (x53_2 + 1)), (by first | rfl | (simp; done) | (simp [*]; done)), H', ⟨by have := HJ19.out; have := HK2.out; omega⟩, ⟨by (with_reducible repeat (first | apply Kd.R_alloc | apply Kd.R_drewN | apply Kd.R_drew)); exact HO173.out⟩, ⟨by (with_reducible repeat (first | refine blk_drewN ?_ _ | refine blk_drew ?_ | refine blk_alloc ?_ _)); exact aa.out⟩, ⟨by repeat (first | (with_reducible first | exact HB.out | apply below_alloc | apply pw_below_drewN | apply below_drew1 | refine below_set ?_ af.out) | exact HB.out)⟩⟩
                      ·rw [if_neg c47] at H
                       exact absurd H (by simp)
                     ·rw [if_neg c45] at H
                      exact absurd H (by simp)
                    ·rw [if_neg c44] at H
                     exact absurd H (by simp)
                   ·rw [if_neg c43] at H
                    have c43b0 : decide (x53_2 < (ae.length : Int)) = false := decide_eq_false c43
                    clear c43
                    replace H := Option.bind_eq_some_iff.mp H
                    obtain ⟨t174, A500, H⟩ := H
                    (try dsimp only at H)
                    have A50 := Aside0.mk A500
                    clear A500
                    by_cases c51 : 11 + t174.size ≤ 9223372036854775807
                    ·rw [if_pos c51] at H
                     have c51b0 := eq_true c51
                     have c51b1 : decide (11 + t174.size ≤ 9223372036854775807) = true := decide_eq_true c51
                     try have c51b2 : (9223372036854775807 < 11 + t174.size) = False := eq_false (Nat.not_lt.2 c51)
                     by_cases c52 : ((⟨#[32, 99, 108, 117, 115, 116, 101, 114, 115, 32, 91]⟩ : ByteArray) ++ t174).size + 1 ≤ 9223372036854775807
                     ·rw [if_pos c52] at H
                      have c52b0 := eq_true c52
                      have c52b1 : decide (((⟨#[32, 99, 108, 117, 115, 116, 101, 114, 115, 32, 91]⟩ : ByteArray) ++ t174).size + 1 ≤ 9223372036854775807) = true := decide_eq_true c52
                      try have c52b2 : (9223372036854775807 < ((⟨#[32, 99, 108, 117, 115, 116, 101, 114, 115, 32, 91]⟩ : ByteArray) ++ t174).size + 1) = False := eq_false (Nat.not_lt.2 c52)
                      try have c52b3 : (9223372036854775807 < 11 + t174.size + 1) = False := eq_false (Nat.not_lt.2 (by have h_ := c52; simp only [ByteArray.size_append] at h_; exact h_))
                      by_cases c53 : x3_19.size + (((⟨#[32, 99, 108, 117, 115, 116, 101, 114, 115, 32, 91]⟩ : ByteArray) ++ t174) ++ (⟨#[93]⟩ : ByteArray)).size ≤ 9223372036854775807
                      ·rw [if_pos c53] at H
                       have c53b0 := eq_true c53
                       have c53b1 : decide (x3_19.size + (((⟨#[32, 99, 108, 117, 115, 116, 101, 114, 115, 32, 91]⟩ : ByteArray) ++ t174) ++ (⟨#[93]⟩ : ByteArray)).size ≤ 9223372036854775807) = true := decide_eq_true c53
                       try have c53b2 : (9223372036854775807 < x3_19.size + (((⟨#[32, 99, 108, 117, 115, 116, 101, 114, 115, 32, 91]⟩ : ByteArray) ++ t174) ++ (⟨#[93]⟩ : ByteArray)).size) = False := eq_false (Nat.not_lt.2 c53)
                       try have c53b3 : (9223372036854775807 < x3_19.size + (11 + t174.size + 1)) = False := eq_false (Nat.not_lt.2 (by have h_ := c53; simp only [ByteArray.size_append] at h_; exact h_))
                       obtain rfl := Option.some.inj H
                       obtain ⟨Ao54, co54, eo54⟩ := Kd.R_slice HO_4.out
                       subst eo54
                       go_wp2_with (first | ((with_reducible refine gate_callee (f := 40) rfl ?_); refine goesL_ (some 65) rfl rfl Try.func40 (by kernel_rfl) rfl #[.slice Ao54 x4_2.length co54, .string (⟨#[32]⟩ : ByteArray)] rfl (by (try simp only [List.map_toArray, List.map_cons, List.map_nil]); first | done | rfl) ?_; (with_reducible refine (strings_Join.calls _ _ x4_2 (⟨#[32]⟩ : ByteArray) t174 _ ?side1 ?side2 A50.out).mono ?_); (case side1 => repeat (first | exact (Kd.R_reads' HO_4.out).2.2 | (with_reducible refine Kd.C_alloc ?_ _) | (with_reducible refine Kd.C_drewN ?_ _) | (with_reducible refine Kd.C_drew ?_))); (case side2 => exact (Kd.R_reads' HO_4.out).2.1); rintro e w55 ⟨rfl, hb⟩; refine ⟨_, rfl, ?_⟩; replace HO_4 := Aside0.mk (Kd.R_below (by (with_reducible repeat (first | apply Kd.R_alloc | apply Kd.R_drewN | apply Kd.R_drew)); exact HO_4.out) hb); replace aa := Aside0.mk (blk_below (g := ab) (by (with_reducible repeat (first | refine blk_drewN ?_ _ | refine blk_drew ?_ | refine blk_alloc ?_ _)); exact aa.out) hb); replace HB := Aside0.mk (below_step (by repeat (first | (with_reducible first | exact HB.out | apply below_alloc | apply pw_below_drewN | apply below_drew1 | refine below_set ?_ af.out) | exact HB.out)) hb); (try clear hb); (try clear ay); (try clear hk); (try clear hi)))
                       go_ret
                       exact ⟨by first | rfl | (simp [errW_none, errW_some] <;> rfl) | (simp [*, errW_none, errW_some] <;> rfl), by repeat (first | (with_reducible first | exact HB.out | apply below_alloc | apply pw_below_drewN | apply below_drew1 | refine below_set ?_ af.out) | exact HB.out)⟩
                      ·rw [if_neg c53] at H
                       exact absurd H (by simp)
                     ·rw [if_neg c52] at H
                      exact absurd H (by simp)
                    ·rw [if_neg c51] at H
                     exact absurd H (by simp)
                ·rw [if_neg c41] at H
                 have c41b0 : decide (0 < (ae.length : Int)) = false := decide_eq_false c41
                 have c41b1 : decide (0 < ae.length) = false := decide_eq_false (by omega)
                 clear c41
                 obtain rfl := Option.some.inj H
                 have hcz56_0 : wc.cell? ⟨ab, 0, none⟩ = some (.int .i64 aj) := (blk_cell aa.out 0).trans rfl
                 have hcz56_1 : wc.cell? ⟨ab, 1, none⟩ = some (.int .i64 ak) := (blk_cell aa.out 1).trans rfl
                 have hcz56_2 : wc.cell? ⟨ab, 2, none⟩ = some (.int .i64 ac) := (blk_cell aa.out 2).trans rfl
                 have hcz56_3 : wc.cell? ⟨ab, 3, none⟩ = some (.slice al ag.length am) := (blk_cell aa.out 3).trans rfl
                 have hcz56_4 : wc.cell? ⟨ab, 4, none⟩ = some (.slice an ah.length ao) := (blk_cell aa.out 4).trans rfl
                 have hcz56_5 : wc.cell? ⟨ab, 5, none⟩ = some (.int .i64 ai) := (blk_cell aa.out 5).trans rfl
                 have hcz56_6 : wc.cell? ⟨ab, 6, none⟩ = some (.slice ar ae.length aq) := (blk_cell aa.out 6).trans rfl
                 have hfz56_0 := blk_frozen aa.out 0
                 have hfz56_1 := blk_frozen aa.out 1
                 have hfz56_2 := blk_frozen aa.out 2
                 have hfz56_3 := blk_frozen aa.out 3
                 have hfz56_4 := blk_frozen aa.out 4
                 have hfz56_5 := blk_frozen aa.out 5
                 have hfz56_6 := blk_frozen aa.out 6
                 go_wp2
                 go_ret
                 exact ⟨by first | rfl | (simp [errW_none, errW_some] <;> rfl) | (simp [*, errW_none, errW_some] <;> rfl), by repeat (first | (with_reducible first | exact HB.out | apply below_alloc | apply pw_below_drewN | apply below_drew1 | refine below_set ?_ af.out) | exact HB.out)⟩
             ·rw [if_neg ax] at H
              exact absurd H (by simp)
            ·rw [if_neg aw] at H
             exact absurd H (by simp)
           ·rw [if_neg av] at H
            exact absurd H (by simp)
          ·rw [if_neg au] at H
           exact absurd H (by simp)
         ·rw [if_neg c13] at H
          exact absurd H (by simp)
        ·rw [if_neg c12] at H
         exact absurd H (by simp)
       ·rw [if_neg c11] at H
        exact absurd H (by simp)
      ·rw [if_neg c10] at H
       exact absurd H (by simp)
     ·rw [if_neg c9] at H
      exact absurd H (by simp)
    ·rw [if_neg c8] at H
     exact absurd H (by simp)
   ·rw [if_neg c6] at H
    exact absurd H (by simp)
  ·rw [if_neg c5] at H
   exact absurd H (by simp)
 ·replace c3 := Bool.eq_false_iff.mpr c3
  subst c3
  have H1 : (some (⟨#[]⟩ : ByteArray)) = some r := by rw [if_neg (show ¬ (false = true) by decide)] at H; exact H
  clear H
  have H := H1
  clear H1
  obtain rfl := Option.some.inj H
  go_enter Try.func14, Try.ntmps14
  go_wp2_with (first | ((with_reducible refine gate_dst (N := 1) rfl ?_); refine box_event ?hg (N := 1) ?hd (cs := #[.int .i64 aj, .int .i64 ak, .int .i64 ac, .slice al ag.length am, .slice an ah.length ao, .int .i64 ai, .slice ar ae.length aq]) (t := 30) ?hr ?_; (case hd => rfl); (case hg => rfl); (case hr => first | (go_simp; done) | (go_simp; rfl)); intro ab hg w57 hbox hb; have n0_ := Aside0.mk (below_step (by repeat (first | (with_reducible first | exact HB.out | apply below_alloc | apply pw_below_drewN | apply below_drew1) | exact HB.out)) hb); have n1_ := Aside0.mk (hbox); have n2_ := Aside0.mk ((by rw [hg]; exact (below_size (by repeat (first | (with_reducible first | exact HB.out | apply below_alloc | apply pw_below_drewN | apply below_drew1) | exact HB.out))) : w.heap.size ≤ ab)); have n3_ := Aside0.mk ((by rw [hg]; exact (below_size (by repeat (first | (with_reducible first | exact HB.out | apply below_alloc | apply pw_below_drewN | apply below_drew1) | exact HB.out))) : w.heap.size ≤ ab)); clear HB; have HB := n0_; have aa := n1_; have GW158 := n2_; have af := n3_; clear n0_ n1_ n2_ n3_; clear hb hbox hg; have hcz58_0 : w57.cell? ⟨ab, 0, none⟩ = some (.int .i64 aj) := (blk_cell aa.out 0).trans rfl; have hcz58_1 : w57.cell? ⟨ab, 1, none⟩ = some (.int .i64 ak) := (blk_cell aa.out 1).trans rfl; have hcz58_2 : w57.cell? ⟨ab, 2, none⟩ = some (.int .i64 ac) := (blk_cell aa.out 2).trans rfl; have hcz58_3 : w57.cell? ⟨ab, 3, none⟩ = some (.slice al ag.length am) := (blk_cell aa.out 3).trans rfl; have hcz58_4 : w57.cell? ⟨ab, 4, none⟩ = some (.slice an ah.length ao) := (blk_cell aa.out 4).trans rfl; have hcz58_5 : w57.cell? ⟨ab, 5, none⟩ = some (.int .i64 ai) := (blk_cell aa.out 5).trans rfl; have hcz58_6 : w57.cell? ⟨ab, 6, none⟩ = some (.slice ar ae.length aq) := (blk_cell aa.out 6).trans rfl; have hfz58_0 := blk_frozen aa.out 0; have hfz58_1 := blk_frozen aa.out 1; have hfz58_2 := blk_frozen aa.out 2; have hfz58_3 := blk_frozen aa.out 3; have hfz58_4 := blk_frozen aa.out 4; have hfz58_5 := blk_frozen aa.out 5; have hfz58_6 := blk_frozen aa.out 6) | ((with_reducible refine gate_callee (f := 15) rfl ?_); refine goesL_ (some 8) rfl rfl Try.func15 (by kernel_rfl) rfl #[.agg #[.int .i64 aj, .int .i64 ak, .int .i64 ac, .slice al ag.length am, .slice an ah.length ao, .int .i64 ai, .slice ar ae.length aq]] rfl (by (try simp only [List.map_toArray, List.map_cons, List.map_nil]); first | done | rfl) ?_; (with_reducible refine (attr_May.calls k aj ak ac _ _ ag _ _ ah ai _ _ ae false _ ?side1 ?side2 ?side3 ?side4 ?side5 ?side6 A2.out).mono ?_); (case side1 | side3 | side5 => repeat (first | exact (Kd.C_below HR0_3.out HB.out) | exact (Kd.C_below HR0_4.out HB.out) | exact (Kd.C_below HR0_6.out HB.out) | (with_reducible refine Kd.C_alloc ?_ _) | (with_reducible refine Kd.C_drewN ?_ _) | (with_reducible refine Kd.C_drew ?_))); (case side2 | side4 | side6 => first | exact HC0_3.out | exact HC0_4.out | exact HC0_6.out); rintro e w59 ⟨rfl, hb⟩; refine ⟨_, rfl, ?_⟩; replace aa := Aside0.mk (blk_below (g := ab) (by (with_reducible repeat (first | refine blk_drewN ?_ _ | refine blk_drew ?_ | refine blk_alloc ?_ _)); exact aa.out) hb); replace HB := Aside0.mk (below_step (by repeat (first | (with_reducible first | exact HB.out | apply below_alloc | apply pw_below_drewN | apply below_drew1 | refine below_set ?_ af.out) | exact HB.out)) hb); (try clear hb); (try clear ay); (try clear hk); (try clear hi)))
  go_ret
  exact ⟨by first | rfl | (simp [errW_none, errW_some] <;> rfl) | (simp [*, errW_none, errW_some] <;> rfl), by repeat (first | (with_reducible first | exact HB.out | apply below_alloc | apply pw_below_drewN | apply below_drew1 | refine below_set ?_ af.out) | exact HB.out)⟩

/-! ### attr_Plain: function 29 -/
def attr_Plain.f  : Option (Int × Int × Int × List Int × (List (S63)) × Int × List Int) := some (100, 0, 0, ([] : List Int), ([] : List (S63)), 0, ([] : List Int))
set_option maxHeartbeats 8000000 in
set_option maxRecDepth 100000 in
theorem attr_Plain.calls  (r1 : Int) (r2 : Int) (r3 : Int) (r4 : List Int) (r5 : List (S63)) (r6 : Int) (r7 : List Int) (w : World) (h : attr_Plain.f  = some (r1, r2, r3, r4, r5, r6, r7)) :
    Calls Try.prog 29 #[] w fun e w' => ∃ v3_ v4_ v6_ : Value, e = .returned (.agg #[.int .i64 r1, .int .i64 r2, .int .i64 r3, v3_, v4_, .int .i64 r6, v6_]) ∧ Kd.R (Kd.int .i64) 3 w' w.heap.size (fun k_ => some k_ ≠ (v6_ : Value).ownBlock) v3_ r4 ∧ Kd.R k63 63 w' w.heap.size (fun _ => True) v4_ r5 ∧ Kd.R (Kd.int .i64) 3 w' w.heap.size (fun k_ => some k_ ≠ (v3_ : Value).ownBlock) v6_ r7 ∧ Below w.heap.size w w' := by
  have hu30 := Try.underlying30
  have HB := Aside0.mk (Below.refl w.heap.size w)
  have H : (some (100, 0, 0, ([] : List Int), ([] : List (S63)), 0, ([] : List Int))) = some (r1, r2, r3, r4, r5, r6, r7) := h
  clear h
  simp only [Option.some.injEq, Prod.mk.injEq] at H
  obtain ⟨rfl, rfl, rfl, rfl, rfl, rfl, rfl⟩ := H
  go_enter Try.func29, Try.ntmps29
  go_wp2_with (first | ((with_reducible refine gate_dst (N := 0) rfl ?_); refine box_event ?hg (N := 0) ?hd (cs := #[.int .i64 0, .int .i64 0, .int .i64 0, .slice none 0 0, .slice none 0 0, .int .i64 0, .slice none 0 0]) (t := 30) ?hr ?_; (case hd => rfl); (case hg => rfl); (case hr => first | (go_simp; done) | (go_simp; rfl)); intro gb175 hg w1 hbox hb; have n0_ := Aside0.mk (below_step (by repeat (first | (with_reducible first | exact HB.out | apply below_alloc | apply pw_below_drewN | apply below_drew1) | exact HB.out)) hb); have n1_ := Aside0.mk (hbox); have n2_ := Aside0.mk ((by rw [hg]; exact (below_size (by repeat (first | (with_reducible first | exact HB.out | apply below_alloc | apply pw_below_drewN | apply below_drew1) | exact HB.out))) : w.heap.size ≤ gb175)); have n3_ := Aside0.mk ((by rw [hg]; exact (below_size (by repeat (first | (with_reducible first | exact HB.out | apply below_alloc | apply pw_below_drewN | apply below_drew1) | exact HB.out))) : w.heap.size ≤ gb175)); clear HB; have HB := n0_; have BK175 := n1_; have GW175 := n2_; have GE175 := n3_; clear n0_ n1_ n2_ n3_; clear hb hbox hg; have hcz2_0 : w1.cell? ⟨gb175, 0, none⟩ = some (.int .i64 0) := (blk_cell BK175.out 0).trans rfl; have hcz2_1 : w1.cell? ⟨gb175, 1, none⟩ = some (.int .i64 0) := (blk_cell BK175.out 1).trans rfl; have hcz2_2 : w1.cell? ⟨gb175, 2, none⟩ = some (.int .i64 0) := (blk_cell BK175.out 2).trans rfl; have hcz2_3 : w1.cell? ⟨gb175, 3, none⟩ = some (.slice none 0 0) := (blk_cell BK175.out 3).trans rfl; have hcz2_4 : w1.cell? ⟨gb175, 4, none⟩ = some (.slice none 0 0) := (blk_cell BK175.out 4).trans rfl; have hcz2_5 : w1.cell? ⟨gb175, 5, none⟩ = some (.int .i64 0) := (blk_cell BK175.out 5).trans rfl; have hcz2_6 : w1.cell? ⟨gb175, 6, none⟩ = some (.slice none 0 0) := (blk_cell BK175.out 6).trans rfl; have hfz2_0 := blk_frozen BK175.out 0; have hfz2_1 := blk_frozen BK175.out 1; have hfz2_2 := blk_frozen BK175.out 2; have hfz2_3 := blk_frozen BK175.out 3; have hfz2_4 := blk_frozen BK175.out 4; have hfz2_5 := blk_frozen BK175.out 5; have hfz2_6 := blk_frozen BK175.out 6))
  refine bodyPost_ret (results_cell_row rfl _ _ gb175 30 #[.int .i64 100, .int .i64 0, .int .i64 0, .slice none 0 0, .slice none 0 0, .int .i64 0, .slice none 0 0] (0, 0) _ rfl (by (with_reducible repeat (first | refine blk_drewN ?_ _ | refine blk_drew ?_ | refine blk_alloc ?_ _)); refine blk_put (cs := #[.int .i64 100, .int .i64 0, .int .i64 0, .slice none 0 0, .slice none 0 0, .int .i64 0, .slice none 0 0]) ?_ 6 _ rfl; (with_reducible repeat (first | refine blk_drewN ?_ _ | refine blk_drew ?_ | refine blk_alloc ?_ _)); refine blk_put (cs := #[.int .i64 100, .int .i64 0, .int .i64 0, .slice none 0 0, .slice none 0 0, .int .i64 0, .slice none 0 0]) ?_ 5 _ rfl; (with_reducible repeat (first | refine blk_drewN ?_ _ | refine blk_drew ?_ | refine blk_alloc ?_ _)); refine blk_put (cs := #[.int .i64 100, .int .i64 0, .int .i64 0, .slice none 0 0, .slice none 0 0, .int .i64 0, .slice none 0 0]) ?_ 4 _ rfl; (with_reducible repeat (first | refine blk_drewN ?_ _ | refine blk_drew ?_ | refine blk_alloc ?_ _)); refine blk_put (cs := #[.int .i64 100, .int .i64 0, .int .i64 0, .slice none 0 0, .slice none 0 0, .int .i64 0, .slice none 0 0]) ?_ 3 _ rfl; (with_reducible repeat (first | refine blk_drewN ?_ _ | refine blk_drew ?_ | refine blk_alloc ?_ _)); refine blk_put (cs := #[.int .i64 100, .int .i64 0, .int .i64 0, .slice none 0 0, .slice none 0 0, .int .i64 0, .slice none 0 0]) ?_ 2 _ rfl; (with_reducible repeat (first | refine blk_drewN ?_ _ | refine blk_drew ?_ | refine blk_alloc ?_ _)); refine blk_put (cs := #[.int .i64 100, .int .i64 0, .int .i64 0, .slice none 0 0, .slice none 0 0, .int .i64 0, .slice none 0 0]) ?_ 1 _ rfl; (with_reducible repeat (first | refine blk_drewN ?_ _ | refine blk_drew ?_ | refine blk_alloc ?_ _)); refine blk_put (cs := #[.int .i64 0, .int .i64 0, .int .i64 0, .slice none 0 0, .slice none 0 0, .int .i64 0, .slice none 0 0]) ?_ 0 _ rfl; (with_reducible repeat (first | refine blk_drewN ?_ _ | refine blk_drew ?_ | refine blk_alloc ?_ _)); exact BK175.out) Try.underlying30 rfl (by kernel_rfl)) rfl ?_
  exact ⟨_, _, _, by first | rfl | (simp [errW_none, errW_some] <;> rfl) | (simp [*, errW_none, errW_some] <;> rfl), by first | exact Kd.R_nil _ _ _ _ _ | exact Kd.N_nil _ _ _ _ _ | exact Kd.V_nil _ _ _ _ _ | exact Kd.Q_nil _ _ _ _ _ | exact Kd.S_nil _ _ _ _ _, by first | exact Kd.R_nil _ _ _ _ _ | exact Kd.N_nil _ _ _ _ _ | exact Kd.V_nil _ _ _ _ _ | exact Kd.Q_nil _ _ _ _ _ | exact Kd.S_nil _ _ _ _ _, by first | exact Kd.R_nil _ _ _ _ _ | exact Kd.N_nil _ _ _ _ _ | exact Kd.V_nil _ _ _ _ _ | exact Kd.Q_nil _ _ _ _ _ | exact Kd.S_nil _ _ _ _ _, by repeat (first | (with_reducible first | exact HB.out | apply below_alloc | apply pw_below_drewN | apply below_drew1 | refine below_set ?_ GE175.out) | exact HB.out)⟩

/-! ### whirligiglaw09_lives: function 10 -/
def whirligiglaw09_lives.f (k : Nat)  : Option (Bool) := (attr_Plain.f).bind fun bt176 => ((attr_Text.f k bt176.1 bt176.2.1 bt176.2.2.1 bt176.2.2.2.1 bt176.2.2.2.2.1 bt176.2.2.2.2.2.1 bt176.2.2.2.2.2.2).bind fun t189 => (some (t189.toList == ([112, 114, 101, 102, 32, 49, 48, 48, 32, 109, 101, 100, 32, 48, 32, 111, 114, 105, 103, 105, 110, 32, 105, 103, 112, 32, 112, 97, 116, 104, 32, 91, 93, 32, 99, 111, 109, 109, 115, 32, 91, 93] : List UInt8))))
theorem whirligiglaw09_lives.mono : ∀ k, LeO (whirligiglaw09_lives.f k ) (whirligiglaw09_lives.f (k + 1) ) := by
  intro  k
  unfold whirligiglaw09_lives.f
  repeat' first
      | (with_reducible exact attr_Text.mono _ _ _ _ _ _ _ _)
      | (with_reducible exact LeO.refl _)
      | (with_reducible exact LeO.none _)
      | (with_reducible refine LeO.ite ?_ ?_)
      | (with_reducible refine LeO.bind ?_ (fun _ => ?_))
      | exact attr_Text.mono _ _ _ _ _ _ _ _
      | exact LeO.none _
      | refine LeO.ite ?_ ?_
      | refine LeO.bind ?_ (fun _ => ?_)
set_option maxHeartbeats 8000000 in
set_option maxRecDepth 100000 in
theorem whirligiglaw09_lives.calls (k : Nat)  (r : Bool) (w : World) (h : whirligiglaw09_lives.f k  = some r) :
    Calls Try.prog 10 #[] w fun e w' => e = .returned (.bool r) ∧ Below w.heap.size w w' := by
  have HB := Aside0.mk (Below.refl w.heap.size w)
  have H : ((attr_Plain.f).bind fun bt176 => ((attr_Text.f k bt176.1 bt176.2.1 bt176.2.2.1 bt176.2.2.2.1 bt176.2.2.2.2.1 bt176.2.2.2.2.2.1 bt176.2.2.2.2.2.2).bind fun t189 => (some (t189.toList == ([112, 114, 101, 102, 32, 49, 48, 48, 32, 109, 101, 100, 32, 48, 32, 111, 114, 105, 103, 105, 110, 32, 105, 103, 112, 32, 112, 97, 116, 104, 32, 91, 93, 32, 99, 111, 109, 109, 115, 32, 91, 93] : List UInt8))))) = some r := h
  clear h
  replace H := Option.bind_eq_some_iff.mp H
  obtain ⟨⟨t176, t177, t178, t179, t182, t185, t186⟩, A10, H⟩ := H
  replace H : ((attr_Text.f k t176 t177 t178 t179 t182 t185 t186).bind fun t189 => (some (t189.toList == ([112, 114, 101, 102, 32, 49, 48, 48, 32, 109, 101, 100, 32, 48, 32, 111, 114, 105, 103, 105, 110, 32, 105, 103, 112, 32, 112, 97, 116, 104, 32, 91, 93, 32, 99, 111, 109, 109, 115, 32, 91, 93] : List UInt8)))) = some r := H
  have A1 := Aside0.mk A10
  clear A10
  replace H := Option.bind_eq_some_iff.mp H
  obtain ⟨t189, A20, H⟩ := H
  replace H : (some (t189.toList == ([112, 114, 101, 102, 32, 49, 48, 48, 32, 109, 101, 100, 32, 48, 32, 111, 114, 105, 103, 105, 110, 32, 105, 103, 112, 32, 112, 97, 116, 104, 32, 91, 93, 32, 99, 111, 109, 109, 115, 32, 91, 93] : List UInt8))) = some r := H
  have A2 := Aside0.mk A20
  clear A20
  obtain rfl := Option.some.inj H
  go_enter Try.func10, Try.ntmps10
  go_wp2_with (first | ((with_reducible refine gate_callee (f := 29) rfl ?_); refine goesL_ (some 1) rfl rfl Try.func29 (by kernel_rfl) rfl #[] rfl (by (try simp only [List.map_toArray, List.map_cons, List.map_nil]); first | done | rfl | (simp only [List.length_drop, List.length_take]; rfl)) ?_; (with_reducible refine (attr_Plain.calls  t176 t177 t178 t179 t182 t185 t186 _ A1.out).mono ?_); rintro e w3 ⟨v180, v183, v187, rfl, ho0, ho1, ho2, hb⟩; refine ⟨_, rfl, ?_⟩; have n0_ := Aside0.mk (Kd.R_lower ho0 (below_size (by repeat (first | (with_reducible first | exact HB.out | apply below_alloc | apply pw_below_drewN | apply below_drew1) | exact HB.out)))); have n1_ := Aside0.mk (Kd.R_lower ho1 (below_size (by repeat (first | (with_reducible first | exact HB.out | apply below_alloc | apply pw_below_drewN | apply below_drew1) | exact HB.out)))); have n2_ := Aside0.mk (Kd.R_lower ho2 (below_size (by repeat (first | (with_reducible first | exact HB.out | apply below_alloc | apply pw_below_drewN | apply below_drew1) | exact HB.out)))); have n3_ := Aside0.mk (below_step (by repeat (first | (with_reducible first | exact HB.out | apply below_alloc | apply pw_below_drewN | apply below_drew1) | exact HB.out)) hb); clear HB; have HO181 := n0_; have HO184 := n1_; have HO188 := n2_; have HB := n3_; clear n0_ n1_ n2_ n3_; (try clear hb); (try clear hb2); (try clear hk); (try clear hi); (try clear ho0); (try clear ho1); (try clear ho2); obtain ⟨Ao4, co4, eo4⟩ := Kd.R_slice HO181.out; subst eo4; obtain ⟨Ao5, co5, eo5⟩ := Kd.R_slice HO184.out; subst eo5; obtain ⟨Ao6, co6, eo6⟩ := Kd.R_slice HO188.out; subst eo6) | ((with_reducible refine gate_callee (f := 14) rfl ?_); refine goesL_ (some 2) rfl rfl Try.func14 (by kernel_rfl) rfl #[.agg #[.int .i64 t176, .int .i64 t177, .int .i64 t178, .slice Ao4 t179.length co4, .slice Ao5 t182.length co5, .int .i64 t185, .slice Ao6 t186.length co6]] rfl (by (try simp only [List.map_toArray, List.map_cons, List.map_nil]); first | done | rfl | (simp only [List.length_drop, List.length_take]; rfl)) ?_; (with_reducible refine (attr_Text.calls k t176 t177 t178 _ _ t179 _ _ t182 t185 _ _ t186 t189 _ ?side1 ?side2 ?side3 ?side4 ?side5 ?side6 A2.out).mono ?_); (case side1 => repeat (first | exact (Kd.R_reads' HO181.out).2.2 | (with_reducible refine Kd.C_alloc ?_ _) | (with_reducible refine Kd.C_drewN ?_ _) | (with_reducible refine Kd.C_drew ?_))); (case side2 => exact (Kd.R_reads' HO181.out).2.1); (case side3 => repeat (first | exact (Kd.R_reads' HO184.out).2.2 | (with_reducible refine Kd.C_alloc ?_ _) | (with_reducible refine Kd.C_drewN ?_ _) | (with_reducible refine Kd.C_drew ?_))); (case side4 => exact (Kd.R_reads' HO184.out).2.1); (case side5 => repeat (first | exact (Kd.R_reads' HO188.out).2.2 | (with_reducible refine Kd.C_alloc ?_ _) | (with_reducible refine Kd.C_drewN ?_ _) | (with_reducible refine Kd.C_drew ?_))); (case side6 => exact (Kd.R_reads' HO188.out).2.1); rintro e w7 ⟨rfl, hb⟩; refine ⟨_, rfl, ?_⟩; have n0_ := Aside0.mk (Kd.R_below (by (with_reducible repeat (first | apply Kd.R_alloc | apply Kd.R_drewN | apply Kd.R_drew)); exact HO181.out) hb); have n1_ := Aside0.mk (Kd.R_below (by (with_reducible repeat (first | apply Kd.R_alloc | apply Kd.R_drewN | apply Kd.R_drew)); exact HO184.out) hb); have n2_ := Aside0.mk (Kd.R_below (by (with_reducible repeat (first | apply Kd.R_alloc | apply Kd.R_drewN | apply Kd.R_drew)); exact HO188.out) hb); have n3_ := Aside0.mk (below_step (by repeat (first | (with_reducible first | exact HB.out | apply below_alloc | apply pw_below_drewN | apply below_drew1) | exact HB.out)) hb); clear HO181; clear HO184; clear HO188; clear HB; have HO181 := n0_; have HO184 := n1_; have HO188 := n2_; have HB := n3_; clear n0_ n1_ n2_ n3_; (try clear hb); (try clear hb2); (try clear hk); (try clear hi)))
  go_ret
  exact ⟨by first | rfl | (simp [errW_none, errW_some] <;> rfl) | (simp [*, errW_none, errW_some] <;> rfl), by repeat (first | (with_reducible first | exact HB.out | apply below_alloc | apply pw_below_drewN | apply below_drew1) | exact HB.out)⟩

end Go.Proofs.Ytnnlbofmlfafhaa.P

/- Printed by this session's own program (wip/tools/pr.py) out of the translation: functions of the program as plain Lean functions, and that the program's calls come to what these say. -/
import Derived.Test.YtndcjncamdhbfaaPx0
import Derived.Test.YtndcjncamdhbfaaPx9
import Derived.Test.YtndcjncamdhbfaaPx14
import Derived.Test.YtndcjncamdhbfaaKdW
import Derived.WalkSpells
import Derived.Test.YtndcjncamdhbfaaGrow
import Derived.WalkMore
namespace Go.Proofs.Ytndcjncamdhbfaa.P
open Go.RowKit Go.Proofs.YtndcjncamdhbfaaW.PrintWords Go.Proofs.YtndcjncamdhbfaaW.PrintLast Go.Proofs.YtndcjncamdhbfaaW.PrintMore
attribute [local go_sem] max2_int min2_int max_two min_two max_three min_three max_four min_four   -- for this text's walks alone
set_option linter.unusedVariables false
set_option linter.unusedSimpArgs false

-- NOT PRINTED: function 49 (api_Range_49)

/-! ### api_Range_40: function 40 -/
-- EXT Derived.Test.YtndcjncamdhbfaaKdW Derived.WalkSpells Derived.Test.YtndcjncamdhbfaaGrow
def api_Range_40.sum (l : List (List S26)) : Nat := (l.map List.length).sum
def api_Range_40.f (l0 : List (List S26)) : Option (List S26) := if l0.length ≤ 1000 ∧ api_Range_40.sum l0 * 40 ≤ 140737488355328 then some l0.flatten else none
theorem api_Range_40.sum_take (l : List (List S26)) (k : Nat) (x : List S26) (h : l[k]? = some x) : api_Range_40.sum (l.take (k + 1)) = api_Range_40.sum (l.take k) + x.length := by
  unfold api_Range_40.sum
  rw [List.take_add_one, h]; simp
theorem api_Range_40.sum_le (l : List (List S26)) (k : Nat) : api_Range_40.sum (l.take k) ≤ api_Range_40.sum l := by
  unfold api_Range_40.sum
  have : (l.map List.length).sum = ((l.take k).map List.length).sum + ((l.drop k).map List.length).sum := by
    rw [← List.sum_append, ← List.map_append, List.take_append_drop]
  omega
theorem api_Range_40.sum_flat (l : List (List S26)) : l.flatten.length = api_Range_40.sum l := by unfold api_Range_40.sum; rw [List.length_flatten]
theorem api_Range_40.flat_take (l : List (List S26)) (k : Nat) (x : List S26) (h : l[k]? = some x) : (l.take (k + 1)).flatten = (l.take k).flatten ++ x := by
  rw [List.take_add_one, h]; simp
theorem api_Range_40.info : (Try.prog.info? 26).map (fun i => (i.zero, i.size, i.bytes)) = some (some (.agg #[.int .u32 0, .int .i64 0, .int .i64 0, .int .i64 0, .bool false]), 5, 40) := by kernel_rfl
theorem api_Range_40.grow (n : Nat) (hn : n * 40 ≤ 140737488355328) (w : World) : Calls Try.prog 49 #[.slice none 0 0, .int .i64 n] w fun e w' => ∃ v : Value, e = .returned v ∧ Kd.R k26 26 w' w.heap.size (fun _ => True) v [] ∧ Below w.heap.size w w' := by
  by_cases h0 : n = 0
  · subst h0
    refine (Go.Proofs.Any8.slices_Grow_room Try.growX none 0 0 0 w (by omega) (by omega) (by omega) (by omega)).mono ?_
    rintro e w' ⟨rfl, rfl⟩
    exact ⟨_, rfl, Kd.R_nil _ _ _ _ _, Below.refl _ _⟩
  · obtain ⟨i0, hi, hz0, hz1, hz2⟩ := info_parts api_Range_40.info
    refine (Go.Proofs.Any8.slices_Grow_grow Try.growX i0 _ hi hz0 (by rw [hz1]; decide) none 0 0 n [] w (by omega) (by omega) (by rw [hz2]; omega) (by omega) (by simp) (fun _ => rfl) (fun a h => by cases h)).mono ?_
    rintro e w' ⟨rfl, rfl⟩
    have hcap := grownCap_ge w (0 + n) 0 26
    have hmax := grownCap_le_maxLen w (0 + n) 0 26 (by unfold maxLen; omega)
    refine ⟨_, rfl, ?_, below_alloc (below_drew1 (Below.refl _ _)) _⟩
    refine ⟨fun _ _ => trivial, [], ?_, Reps.none _ _⟩
    refine ⟨by simp, .inr ⟨w.heap.size, _, _, rfl, Nat.le_refl _, heap_alloc_new w.drew _, Nat.zero_le _, hmax, ?_, by simp⟩⟩
    simp only [Array.size_append, size_zeroCells, List.size_toArray, List.length_nil, Value.cells]
    show 0 + (0 + n - 0) * 5 + (grownCap w (0 + n) 0 26 - (0 + n)) * 5 = grownCap w (0 + n) 0 26 * 5
    omega
set_option maxHeartbeats 2000000 in
set_option maxRecDepth 100000 in
theorem api_Range_40.calls (A0 : Option Addr) (c0 : Nat) (l0 : List (List S26)) (r : List S26) (w : World) (hr0 : Kd.C (Kd.slice 26 k26) w A0 l0.length l0) (hc0 : l0.length ≤ c0) (h : api_Range_40.f l0 = some r) :
    Calls Try.prog 40 #[.slice A0 l0.length c0] w fun e w' => ∃ v0_ : Value, e = .returned v0_ ∧ Kd.R k26 26 w' w.heap.size (fun _ => True) v0_ r ∧ Below w.heap.size w w' := by
  unfold api_Range_40.f at h
  split at h
  · rename_i hb
    obtain rfl := Option.some.inj h
    have HR := mkHid hr0
    have hn := hb.1
    have hsz := mkHid hb.2
    have hbd : ∀ k, api_Range_40.sum (l0.take k) ≤ 140737488355328 := fun k => by have := api_Range_40.sum_le l0 k; have := hsz.out; omega
    have HBD := mkHid hbd
    clear h hr0 hc0 hb hbd
    go_enter Try.func40, Try.ntmps40
    go_wp2_with fail
    go_loopg [3, 11] l0.length (fun kq v3 v11 wr => ∃ k : Int, v3 = .int .i64 (api_Range_40.sum (l0.take k.toNat) : Nat) ∧ v11 = .int .i64 k ∧ 0 ≤ k ∧ k ≤ l0.length ∧ Hid (k + kq = l0.length) ∧ w = wr)
    case atStart => exact ⟨0, rfl, rfl, by omega, by omega, by unfold Hid; omega, rfl⟩
    case round =>
      obtain ⟨k, rfl, rfl, k0, kn, hk, rfl⟩ := hrel
      have hk1 := hk.out
      by_cases hkn : k < l0.length
      · obtain ⟨x, hx⟩ : ∃ x, l0[k.toNat]? = some x := ⟨_, List.getElem?_eq_getElem (h := by omega)⟩
        obtain ⟨g, o, rfl, hg, hcells⟩ := C_at HR.out (by decide) (by omega)
        obtain ⟨cs, _, hK, hcc⟩ := hcells _ _ hx
        obtain ⟨Ax, cx, rfl, hxc, hxC⟩ := hK
        have d0 : w.cell? ⟨g, o + k.toNat * 1 + 0, none⟩ = some (.slice Ax x.length cx) := hcc 0 _ rfl
        rw [Nat.add_zero, Nat.mul_one] at d0
        have q1 : decide (k < (l0.length : Int)) = true := decide_eq_true hkn
        have hs := api_Range_40.sum_take l0 k.toNat x hx
        have hs2 := HBD.out (k.toNat + 1)
        have hw1 : IntKind.i64.wrap (k + 1) = k + 1 := IntWalk.i64_in _ (by omega)
        have hw2 : IntKind.i64.wrap ((api_Range_40.sum (l0.take k.toNat) : Nat) + (x.length : Int)) = ((api_Range_40.sum (l0.take (k.toNat + 1)) : Nat) : Int) := by rw [IntWalk.i64_in _ (by omega), hs]; omega
        have q2 : decide (((api_Range_40.sum (l0.take (k.toNat + 1)) : Nat) : Int) < 0) = false := decide_eq_false (by omega)
        have e1 : (k + 1).toNat = k.toNat + 1 := by omega
        have E1 := mkHid e1
        clear hcc hcells hxC hxc hs hs2 hx e1
        go_wp2_with fail
        go_roundg (gk - 1)
        case measure => omega
        case rel => exact ⟨k + 1, by rw [E1.out], rfl, by omega, by omega, by unfold Hid; omega, rfl⟩
      · have q1 : decide (k < (l0.length : Int)) = false := decide_eq_false (by omega)
        have hall : l0.take k.toNat = l0 := List.take_of_length_le (by omega)
        rw [hall]
        clear hall
        go_wp2_with fail
        refine (api_Range_40.grow (api_Range_40.sum l0) hsz.out w).mono ?_
        rintro e w1 ⟨v, rfl, hR1, hB1⟩
        have HR1 := mkHid hR1
        have HB1 := mkHid hB1
        clear hR1 hB1
        go_wp2_with fail
        go_loopg [6, 27] l0.length (fun kq v6 v27 wr => ∃ j : Int, v27 = .int .i64 j ∧ 0 ≤ j ∧ j ≤ l0.length ∧ Hid (j + kq = l0.length) ∧ Hid (Kd.R k26 26 wr w.heap.size (fun _ => True) v6 (l0.take j.toNat).flatten) ∧ Hid (Below w.heap.size w wr))
        case atStart => exact ⟨0, rfl, by omega, by omega, by unfold Hid; omega, HR1.out, HB1.out⟩
        case round =>
          clear HR1 HB1 q1
          obtain ⟨j, rfl, j0, jn, hj, hR2, hB2⟩ := hrel
          have hj1 := hj.out
          by_cases hjn : j < l0.length
          · obtain ⟨x, hx⟩ : ∃ x, l0[j.toNat]? = some x := ⟨_, List.getElem?_eq_getElem (h := by omega)⟩
            obtain ⟨g, o, rfl, hg, hcells⟩ := C_at (Kd.C_below HR.out hB2.out) (by decide) (by omega)
            obtain ⟨cs, _, hK, hcc⟩ := hcells _ _ hx
            obtain ⟨Ax, cx, rfl, hxc, hxC⟩ := hK
            have d0 : wr.cell? ⟨g, o + j.toNat * 1 + 0, none⟩ = some (.slice Ax x.length cx) := hcc 0 _ rfl
            rw [Nat.add_zero, Nat.mul_one] at d0
            have q1 : decide (j < (l0.length : Int)) = true := decide_eq_true hjn
            have hs := api_Range_40.sum_take l0 j.toNat x hx
            have hs2 := api_Range_40.sum_le l0 (j.toNat + 1)
            have hw1 : IntKind.i64.wrap (j + 1) = j + 1 := IntWalk.i64_in _ (by omega)
            have hl : ((l0.take j.toNat).flatten.length + x.length) * 40 ≤ 140737488355328 := by rw [api_Range_40.sum_flat]; have := hsz.out; omega
            have HL := mkHid hl
            have HXC := mkHid hxC
            have e1 : (l0.take (j + 1).toNat).flatten = (l0.take j.toNat).flatten ++ x := by rw [show (j + 1).toNat = j.toNat + 1 by omega]; exact api_Range_40.flat_take l0 j.toNat x hx
            have E1 := mkHid e1
            clear hcc hcells hxC hxc hs hs2 hx hl e1
            go_wp2_with (at_builtin; refine Kd.R_append_rows k26 (w0 := w) (Rr := Kd.K k26 wr) w.heap.size ?a1 (.tmp 31) (.tmp 32) 31 26 (.agg #[.int .u32 0, .int .i64 0, .int .i64 0, .int .i64 0, .bool false]) 40 ?a2 ?a3 ?a4 ?a5 ?a6 ?a7 u6 (l0.take j.toNat).flatten x Ax x.length cx (fun _ => True) (fun _ => False) ?a8 ?a9 ?aO ?aR ?aK ?aE ?aF ?aB ?aS ?aL ?_; (case a1 => rfl); (case a2 => rfl); (case a3 => exact Try.underlying31); (case a4 => exact api_Range_40.info); (case a5 => rfl); (case a6 => decide); (case a7 => omega); (case a8 => rfl); (case a9 => rfl); (case aO => exact hR2.out); (case aR => exact HXC.out); (case aK => intro y cs hy; exact (fun h w1 b ok => by have e := k26_open h; subst e; exact k26_mkM w1 b ok _) hy wr w.heap.size (fun _ => False)); (case aE => exact fun _ h => h.elim); (case aF => exact fun _ _ => trivial); (case aB => exact hB2.out); (case aS => exact hB2.out.size); (case aL => exact HL.out); intro v1 w3 hR3 hB3 _ _)
            have HR3 := mkHid hR3
            have HB3 := mkHid hB3
            clear hR3 hB3
            go_wp2_with fail
            go_roundg (gk - 1)
            case measure => omega
            case rel => exact ⟨j + 1, rfl, by omega, by omega, by unfold Hid; omega, by rw [E1.out]; exact HR3.out, HB3.out⟩
          · have q1 : decide (j < (l0.length : Int)) = false := decide_eq_false (by omega)
            have hall : l0.take j.toNat = l0 := List.take_of_length_le (by omega)
            rw [hall] at hR2
            go_wp2_with fail
            go_ret
            exact ⟨_, rfl, hR2.out, hB2.out⟩
  · exact absurd h (by simp)

/-! ### plist_Differ: function 26 -/
/-- the walk, through a scope and a label -/
local macro "go_wps " t:tactic : tactic => `(tactic| (go_wp2_with $t; all_goals (try (go_step3; go_wp2_with $t)); all_goals (try (go_step3; go_wp2_with $t)); all_goals (try rw [Exit.noGoto_ret])))
mutual
def plist_Differ.l0 : Nat → List (S26) → List (S26) → List (List (S26)) → Int → Int → Option (Int × Int × Bool × Int)
  | 0, _, _, _, _, _ => none
  | k + 1, x0, x1, x22, x23, x24 => if x24 < x23 then (if 0 ≤ x24 then (if x24 < (x22.length : Int) then ((plist_May.f k (rd_L8 x22 x24)).bind fun t344 => (if t344 = 0 then (plist_Differ.l0 k x0 x1 x22 x23 (wrap64 (x24 + 1))) else (some (0, 0, false, t344)))) else (none)) else (none)) else ((api_Range_40.f (([x0, x1] : List (List (S26))))).bind fun t348 => (plist_Differ.l1 k x0 x1 t348 false 0 0 0))
def plist_Differ.l1 : Nat → List (S26) → List (S26) → List (S26) → Bool → Int → Int → Int → Option (Int × Int × Bool × Int)
  | 0, _, _, _, _, _, _, _ => none
  | k + 1, x0, x1, x10, x12, x40, x352000, x352001 => if x40 < 33 then ((plist_samples.f x10 x40).bind fun t352 => (plist_Differ.l2 k x0 x1 x10 x12 x40 t352 (t352.length : Int) 0 x352000 x352001)) else (some (x352000, x352001, x12, 0))
def plist_Differ.l2 : Nat → List (S26) → List (S26) → List (S26) → Bool → Int → List (S24) → Int → Int → Int → Int → Option (Int × Int × Bool × Int)
  | 0, _, _, _, _, _, _, _, _, _, _ => none
  | k + 1, x0, x1, x10, x12, x40, x45, x46, x47, x352000, x352001 => if x47 < x46 then (if 0 ≤ x47 then (if x47 < (x45.length : Int) then ((plist_Lets.f k x0 ((rd_T24 x45 x47).f0) ((rd_T24 x45 x47).f1)).bind fun bt357 => ((plist_Lets.f k x1 ((rd_T24 x45 x47).f0) ((rd_T24 x45 x47).f1)).bind fun bt359 => (if (bt357.1 != bt359.1) = true then (some ((rd_T24 x45 x47).f0, (rd_T24 x45 x47).f1, true, 0)) else (plist_Differ.l2 k x0 x1 x10 x12 x40 x45 x46 (wrap64 (x47 + 1)) x352000 x352001)))) else (none)) else (none)) else (plist_Differ.l1 k x0 x1 x10 x12 (wrap64 (x40 + 1)) x352000 x352001)
end
def plist_Differ.f (k : Nat) (l0 : List (S26)) (l1 : List (S26)) : Option (Int × Int × Bool × Int) := (some (([l0, l1] : List (List (S26))) : List (List (S26)))).bind fun y340 => (plist_Differ.l0 k l0 l1 y340 (y340.length : Int) 0)
theorem plist_Differ.mono_l : ∀ k, (∀ y0 y1 y2 y3 y4, LeO (plist_Differ.l0 k y0 y1 y2 y3 y4) (plist_Differ.l0 (k + 1) y0 y1 y2 y3 y4)) ∧ (∀ y0 y1 y2 y3 y4 y5 y6, LeO (plist_Differ.l1 k y0 y1 y2 y3 y4 y5 y6) (plist_Differ.l1 (k + 1) y0 y1 y2 y3 y4 y5 y6)) ∧ (∀ y0 y1 y2 y3 y4 y5 y6 y7 y8 y9, LeO (plist_Differ.l2 k y0 y1 y2 y3 y4 y5 y6 y7 y8 y9) (plist_Differ.l2 (k + 1) y0 y1 y2 y3 y4 y5 y6 y7 y8 y9))
  | 0 => ⟨fun _ _ _ _ _ r h => by simp [plist_Differ.l0] at h, fun _ _ _ _ _ _ _ r h => by simp [plist_Differ.l1] at h, fun _ _ _ _ _ _ _ _ _ _ r h => by simp [plist_Differ.l2] at h⟩
  | k + 1 => by
    obtain ⟨ih0, ih1, ih2⟩ := plist_Differ.mono_l k
    refine ⟨?_, ?_, ?_⟩
    · intro y0 y1 y2 y3 y4
      unfold plist_Differ.l0
      repeat' first
      | (with_reducible exact ih0 _ _ _ _ _)
      | (with_reducible exact ih1 _ _ _ _ _ _ _)
      | (with_reducible exact ih2 _ _ _ _ _ _ _ _ _ _)
      | (with_reducible exact plist_Lets.mono _ _ _ _)
      | (with_reducible exact plist_May.mono _ _)
      | (with_reducible exact LeO.refl _)
      | (with_reducible exact LeO.none _)
      | (with_reducible refine LeO.ite ?_ ?_)
      | (with_reducible refine LeO.bind ?_ (fun _ => ?_))
      | exact ih0 _ _ _ _ _
      | exact ih1 _ _ _ _ _ _ _
      | exact ih2 _ _ _ _ _ _ _ _ _ _
      | exact plist_Lets.mono _ _ _ _
      | exact plist_May.mono _ _
      | exact LeO.none _
      | refine LeO.ite ?_ ?_
      | refine LeO.bind ?_ (fun _ => ?_)
    · intro y0 y1 y2 y3 y4 y5 y6
      unfold plist_Differ.l1
      repeat' first
      | (with_reducible exact ih0 _ _ _ _ _)
      | (with_reducible exact ih1 _ _ _ _ _ _ _)
      | (with_reducible exact ih2 _ _ _ _ _ _ _ _ _ _)
      | (with_reducible exact plist_Lets.mono _ _ _ _)
      | (with_reducible exact plist_May.mono _ _)
      | (with_reducible exact LeO.refl _)
      | (with_reducible exact LeO.none _)
      | (with_reducible refine LeO.ite ?_ ?_)
      | (with_reducible refine LeO.bind ?_ (fun _ => ?_))
      | exact ih0 _ _ _ _ _
      | exact ih1 _ _ _ _ _ _ _
      | exact ih2 _ _ _ _ _ _ _ _ _ _
      | exact plist_Lets.mono _ _ _ _
      | exact plist_May.mono _ _
      | exact LeO.none _
      | refine LeO.ite ?_ ?_
      | refine LeO.bind ?_ (fun _ => ?_)
    · intro y0 y1 y2 y3 y4 y5 y6 y7 y8 y9
      unfold plist_Differ.l2
      repeat' first
      | (with_reducible exact ih0 _ _ _ _ _)
      | (with_reducible exact ih1 _ _ _ _ _ _ _)
      | (with_reducible exact ih2 _ _ _ _ _ _ _ _ _ _)
      | (with_reducible exact plist_Lets.mono _ _ _ _)
      | (with_reducible exact plist_May.mono _ _)
      | (with_reducible exact LeO.refl _)
      | (with_reducible exact LeO.none _)
      | (with_reducible refine LeO.ite ?_ ?_)
      | (with_reducible refine LeO.bind ?_ (fun _ => ?_))
      | exact ih0 _ _ _ _ _
      | exact ih1 _ _ _ _ _ _ _
      | exact ih2 _ _ _ _ _ _ _ _ _ _
      | exact plist_Lets.mono _ _ _ _
      | exact plist_May.mono _ _
      | exact LeO.none _
      | refine LeO.ite ?_ ?_
      | refine LeO.bind ?_ (fun _ => ?_)
theorem plist_Differ.mono : ∀ a0 a1 k, LeO (plist_Differ.f k a0 a1) (plist_Differ.f (k + 1) a0 a1) := by
  intro a0 a1 k
  obtain ⟨ih0, ih1, ih2⟩ := plist_Differ.mono_l k
  unfold plist_Differ.f
  repeat' first
      | (with_reducible exact ih0 _ _ _ _ _)
      | (with_reducible exact ih1 _ _ _ _ _ _ _)
      | (with_reducible exact ih2 _ _ _ _ _ _ _ _ _ _)
      | (with_reducible exact plist_Lets.mono _ _ _ _)
      | (with_reducible exact plist_May.mono _ _)
      | (with_reducible exact LeO.refl _)
      | (with_reducible exact LeO.none _)
      | (with_reducible refine LeO.ite ?_ ?_)
      | (with_reducible refine LeO.bind ?_ (fun _ => ?_))
      | exact ih0 _ _ _ _ _
      | exact ih1 _ _ _ _ _ _ _
      | exact ih2 _ _ _ _ _ _ _ _ _ _
      | exact plist_Lets.mono _ _ _ _
      | exact plist_May.mono _ _
      | exact LeO.none _
      | refine LeO.ite ?_ ?_
      | refine LeO.bind ?_ (fun _ => ?_)
set_option maxHeartbeats 8000000 in
set_option maxRecDepth 100000 in
theorem plist_Differ.calls (k : Nat) (P0_ : Nat → Prop) (A0 : Option Addr) (c0 : Nat) (l0 : List (S26)) (P1_ : Nat → Prop) (A1 : Option Addr) (c1 : Nat) (l1 : List (S26)) (r1 : Int) (r2 : Int) (r3 : Bool) (r4 : Int) (w : World) (hs0 : Kd.V k26 26 w w.heap.size (fun k_ => P0_ k_) (.slice A0 l0.length c0) l0) (hs1 : Kd.V k26 26 w w.heap.size (fun k_ => P1_ k_) (.slice A1 l1.length c1) l1) (h : plist_Differ.f k l0 l1 = some (r1, r2, r3, r4)) :
  Calls Try.prog 26 #[.slice A0 l0.length c0, .slice A1 l1.length c1] w fun e w' => e = .returned (.tuple #[.agg #[.int .u32 r1, .int .i64 r2], .bool r3, .int .i64 r4]) ∧ Below w.heap.size w w' := by
 have hu24 := Try.underlying24
 have ap := Aside0.mk (show Kd.V k26 26 w w.heap.size (fun k_ => ((P0_ k_ ∨ P1_ k_) ∨ w.heap.size ≤ k_)) (.slice A0 l0.length c0) l0 from Kd.V_mono hs0 (fun k_ hk => .inl (.inl hk)))
 have aq := Aside0.mk (show Kd.V k26 26 w w.heap.size (fun k_ => ((P0_ k_ ∨ P1_ k_) ∨ w.heap.size ≤ k_)) (.slice A1 l1.length c1) l1 from Kd.V_mono hs1 (fun k_ hk => .inl (.inr hk)))
 have HB := Aside0.mk (Below.refl w.heap.size w)
 have H : ((some (([l0, l1] : List (List (S26))) : List (List (S26)))).bind fun ah => (plist_Differ.l0 k l0 l1 ah (ah.length : Int) 0)) = some (r1, r2, r3, r4) := h
 clear h
 obtain ⟨ah, hy340⟩ : ∃ y_ : List (List (S26)), y_ = (([l0, l1] : List (List (S26)))) := ⟨_, rfl⟩
 replace H : (plist_Differ.l0 k l0 l1 ah (ah.length : Int) 0) = some (r1, r2, r3, r4) := by first | (rw [hy340]; with_reducible exact H) | (have H2_ := (Option.bind_some _ _).symm.trans H; rw [hy340]; with_reducible exact H2_) | (have H2_ := (Option.bind_some _ _).symm.trans H; with_reducible exact H2_) | with_reducible exact H | (rw [hy340]; exact H) | exact H
 have Ny340 := Aside0.mk hy340
 clear hy340
 have H' := Aside0.mk H
 clear H
 go_enter Try.func26, Try.ntmps26
 go_wps (first | ((with_reducible refine gate_dst (N := 4) rfl ?_); refine box_event ?hg (N := 4) ?hd (cs := #[.int .u32 0, .int .i64 0]) (t := 24) ?hr ?_; (case hd => rfl); (case hg => rfl); (case hr => first | (go_simp; done) | (go_simp; rfl)); intro aa hg w3 hbox hb; have n0_ := Aside0.mk (Kd.V_below (Kd.V_elderB (by (with_reducible repeat (first | apply Kd.V_alloc | apply Kd.V_drewN | apply Kd.V_drew)); exact ap.out) aa (Nat.le_of_eq hg.symm)) hb); have n1_ := Aside0.mk (Kd.V_below (Kd.V_elderB (by (with_reducible repeat (first | apply Kd.V_alloc | apply Kd.V_drewN | apply Kd.V_drew)); exact aq.out) aa (Nat.le_of_eq hg.symm)) hb); have n2_ := Aside0.mk (below_step (by repeat (first | (with_reducible first | exact HB.out | apply below_alloc | apply pw_below_drewN | apply below_drew1) | exact HB.out)) hb); have n3_ := Aside0.mk (hbox); have n4_ := Aside0.mk ((by rw [hg]; exact (below_size (by repeat (first | (with_reducible first | exact HB.out | apply below_alloc | apply pw_below_drewN | apply below_drew1) | exact HB.out))) : w.heap.size ≤ aa)); have n5_ := Aside0.mk ((by rw [hg]; exact (below_size (by repeat (first | (with_reducible first | exact HB.out | apply below_alloc | apply pw_below_drewN | apply below_drew1) | exact HB.out))) : w.heap.size ≤ aa)); clear ap; clear aq; clear HB; have ap := n0_; have aq := n1_; have HB := n2_; have ac := n3_; have GW339 := n4_; have af := n5_; clear n0_ n1_ n2_ n3_ n4_ n5_; clear hb hbox hg) | ((with_reducible refine gate_dst (N := 22) rfl ?_); refine Kd.N_lit (Kd.slice 26 k26) _ 31 ?hg (N' := 22) ?hd (xs := ([l0, l1] : List (List (S26)))) (inner := [.slice A0 l0.length c0, .slice A1 l1.length c1]) (ok := (fun k_ => ((P0_ k_ ∨ P1_ k_) ∨ w.heap.size ≤ k_) ∧ k_ ≠ aa)) (okp := (fun k_ => ((P0_ k_ ∨ P1_ k_) ∨ w.heap.size ≤ k_) ∧ k_ ≠ aa)) ?hr ?hp (fun _ hk => hk) ((show ∀ k_, w3.heap.size ≤ k_ → (fun k_ => ((P0_ k_ ∨ P1_ k_) ∨ w.heap.size ≤ k_) ∧ k_ ≠ aa) k_ from fun k_ hk => ⟨(.inr (Nat.le_trans (below_size (by repeat (first | (with_reducible first | exact HB.out | apply below_alloc | apply pw_below_drewN | apply below_drew1 | refine below_set ?_ af.out) | exact HB.out))) hk)), Kd.freshB (g := aa) (o := .cells #[.int .u32 0, .int .i64 0] 24 (0, 0)) (by (with_reducible repeat (first | refine blk_drewN ?_ _ | refine blk_drew ?_ | refine blk_alloc ?_ _)); exact ac.out) k_ hk⟩) _ (Nat.le_refl _)) (Below.refl _ _) (Nat.le_refl _) (by simp) ?_; (case hd => rfl); (case hg => rfl); (case hr => first | (go_simp; done) | (go_simp; rfl)); (case hp => exact (Reps.one (show Kd.FK (Kd.slice 26 k26) _ _ l0 [.slice A0 l0.length c0] from (Kd.FK_slice_mk (Kd.V_reads' (Kd.V_mono (ok' := (fun k_ => ((P0_ k_ ∨ P1_ k_) ∨ w.heap.size ≤ k_) ∧ k_ ≠ aa)) (ap.out) (fun k_ hk => ⟨hk.1, hk.2⟩))).2.1 (Kd.V_F (Kd.V_mono (ok' := (fun k_ => ((P0_ k_ ∨ P1_ k_) ∨ w.heap.size ≤ k_) ∧ k_ ≠ aa)) (ap.out) (fun k_ hk => ⟨hk.1, hk.2⟩))))) (Reps.one (show Kd.FK (Kd.slice 26 k26) _ _ l1 [.slice A1 l1.length c1] from (Kd.FK_slice_mk (Kd.V_reads' (Kd.V_mono (ok' := (fun k_ => ((P0_ k_ ∨ P1_ k_) ∨ w.heap.size ≤ k_) ∧ k_ ≠ aa)) (aq.out) (fun k_ hk => ⟨hk.1, hk.2⟩))).2.1 (Kd.V_F (Kd.V_mono (ok' := (fun k_ => ((P0_ k_ ∨ P1_ k_) ∨ w.heap.size ≤ k_) ∧ k_ ≠ aa)) (aq.out) (fun k_ hk => ⟨hk.1, hk.2⟩))))) (Reps.none _ _)))); intro v341 w4 ho5 hb hg_ hnew_; clear hg_ hnew_; (first | rw [← Ny340.out] at ho5 | (simp only [Int.reduceToNat] at ho5; rw [← Ny340.out] at ho5)); replace ap := Aside0.mk (Kd.V_elder' (by (with_reducible repeat (first | apply Kd.V_alloc | apply Kd.V_drewN | apply Kd.V_drew)); exact ap.out) (Kd.N_base ho5) hb); replace aq := Aside0.mk (Kd.V_elder' (by (with_reducible repeat (first | apply Kd.V_alloc | apply Kd.V_drewN | apply Kd.V_drew)); exact aq.out) (Kd.N_base ho5) hb); have HO342 := Aside0.mk (Kd.N_lower ho5 (below_size (by repeat (first | (with_reducible first | exact HB.out | apply below_alloc | apply pw_below_drewN | apply below_drew1 | refine below_set ?_ af.out) | exact HB.out)))); replace ac := Aside0.mk (blk_below (g := aa) (by (with_reducible repeat (first | refine blk_drewN ?_ _ | refine blk_drew ?_ | refine blk_alloc ?_ _)); exact ac.out) hb); replace HB := Aside0.mk (below_step (by repeat (first | (with_reducible first | exact HB.out | apply below_alloc | apply pw_below_drewN | apply below_drew1 | refine below_set ?_ af.out) | exact HB.out)) hb); clear hb ho5; obtain ⟨am, an, eo6⟩ := Kd.N_slice HO342.out; subst eo6))
 go_loopg [24] k (fun kq v24 w' => ∃ (x24_1 : Int) (x340000_1 : Int) (x340001_1 : Int), v24 = .int .i64 x24_1 ∧ Aside0 (plist_Differ.l0 kq l0 l1 ah (ah.length : Int) x24_1 = some (r1, r2, r3, r4)) ∧ Aside0 (kq ≤ k) ∧ Aside0 (Kd.V k26 26 w' w.heap.size (fun k_ => ((P0_ k_ ∨ P1_ k_) ∨ w.heap.size ≤ k_) ∧ some k_ ≠ ((.slice am ah.length an) : Value).ownBlock ∧ k_ ≠ aa) (.slice A0 l0.length c0) l0) ∧ Aside0 (Kd.V k26 26 w' w.heap.size (fun k_ => ((P0_ k_ ∨ P1_ k_) ∨ w.heap.size ≤ k_) ∧ some k_ ≠ ((.slice am ah.length an) : Value).ownBlock ∧ k_ ≠ aa) (.slice A1 l1.length c1) l1) ∧ Aside0 (Kd.N (Kd.slice 26 k26) 31 w' w.heap.size (fun k_ => ((P0_ k_ ∨ P1_ k_) ∨ w.heap.size ≤ k_) ∧ k_ ≠ aa) (.slice am ah.length an) ah) ∧ Aside0 (w'.heap[aa]? = some (.cells #[.int .u32 x340000_1, .int .i64 x340001_1] 24 (0, 0))) ∧ Aside0 (Below w.heap.size w w'))
 case atStart => exact ⟨(0), (0), (0), (by first | rfl | (simp; done) | (simp [*]; done)), H', ⟨Nat.le_refl _⟩, ⟨by (with_reducible repeat (first | apply Kd.V_alloc | apply Kd.V_drewN | apply Kd.V_drew)); exact Kd.V_mono ap.out (fun _ hk => ⟨hk.1.1, ⟨hk.2, hk.1.2⟩⟩)⟩, ⟨by (with_reducible repeat (first | apply Kd.V_alloc | apply Kd.V_drewN | apply Kd.V_drew)); exact Kd.V_mono aq.out (fun _ hk => ⟨hk.1.1, ⟨hk.2, hk.1.2⟩⟩)⟩, ⟨by (with_reducible repeat (first | apply Kd.N_alloc | apply Kd.N_drewN | apply Kd.N_drew)); exact HO342.out⟩, ⟨by (with_reducible repeat (first | refine blk_drewN ?_ _ | refine blk_drew ?_ | refine blk_alloc ?_ _)); exact ac.out⟩, ⟨by repeat (first | (with_reducible first | exact HB.out | apply below_alloc | apply pw_below_drewN | apply below_drew1 | refine below_set ?_ af.out) | exact HB.out)⟩⟩
 case round =>
  clear H'
  try clear c1
  try clear c2
  try clear p2
  try clear p3
  obtain ⟨x24_1, x340000_1, x340001_1, rfl, HA, HK1, HO_0, HO_1, HO_22, ac, HB⟩ := hrel
  cases gk with
  | zero => exact absurd HA.out (by simp [plist_Differ.l0])
  | succ k1 =>
   have H := HA.out
   clear HA
   simp only [plist_Differ.l0] at H
   by_cases c7 : x24_1 < (ah.length : Int)
   ·rw [if_pos c7] at H
    have c7b0 : decide (x24_1 < (ah.length : Int)) = true := decide_eq_true c7
    clear c7
    by_cases c8 : 0 ≤ x24_1
    ·rw [if_pos c8] at H
     have c8b0 : decide (0 ≤ x24_1) = true := decide_eq_true c8
     clear c8
     by_cases c9 : x24_1 < (ah.length : Int)
     ·rw [if_pos c9] at H
      have c9b0 : decide (x24_1 < (ah.length : Int)) = true := decide_eq_true c9
      clear c9
      replace H := Option.bind_eq_some_iff.mp H
      obtain ⟨t344, A100, H⟩ := H
      (try dsimp only at H)
      have A10 := Aside0.mk A100
      clear A100
      by_cases ao : t344 = 0
      ·rw [if_pos ao] at H
       have c11b0 : (t344 == 0) = true := beq_iff_eq.mpr ao
       have c11b1 : (t344 != 0) = false := bne_eq_false_iff_eq.mpr ao
       clear ao
       have H' := Aside0.mk H
       clear H
       have p343 : 0 ≤ (x24_1 : Int) := of_decide_eq_true (by first | (with_reducible assumption) | assumption)
       have q343 : x24_1 < (ah.length : Int) := of_decide_eq_true (by first | (with_reducible assumption) | assumption)
       obtain ⟨ad343, A343_0, c343_0, e343, hx343_0, hl343_0, hi343_0⟩ := at_L8 (Kd.N_reads' HO_22.out).2.2 x24_1 p343 q343
       (try (injection e343 with e343; replace e343 := e343.symm; subst e343; have e343 : True := trivial))
       cases e343
       obtain ⟨ce343, hce343, hMe343, hcc343⟩ := Kd.N_get HO_22.out [] x24_1 p343 (by first | exact q343 | exact of_decide_eq_true (by first | (with_reducible assumption) | assumption) | (have e_ := (Kd.N_reads' HO_22.out).1; omega))
       obtain ⟨ua343_0, uc343_0, rfl, ul343_0, ge343_0⟩ := Kd.FK_slice_open hMe343
       have hv343_0 := hcc343 0 _ rfl
       rw [Nat.add_zero, show ((Kd.slice 26 k26)).sz = 1 from rfl, Nat.mul_one] at hv343_0
       replace hv343_0 := Option.some.inj (hv343_0.symm.trans hx343_0)
       injection hv343_0 with hva_ hvn_ hvc_
       rw [hva_] at ge343_0
       rw [hvc_] at ul343_0
       have HL343_0 := Aside0.mk (show Kd.V k26 26 _ w.heap.size _ _ (rd_L8 ah x24_1) from Kd.V_mk ul343_0 ge343_0)
       clear hva_ hvn_ hvc_ ge343_0 ul343_0
       clear hcc343 hce343
       have ai := Aside0.mk hi343_0
       have HC343_0 := Aside0.mk hl343_0
       clear hi343_0 hl343_0
       replace p343 := eq_true p343
       replace q343 := eq_true q343
       go_wps (first | ((with_reducible refine gate_callee (f := 15) rfl ?_); refine goesL_ (some 29) rfl rfl Try.func15 (by kernel_rfl) rfl #[.slice A343_0 (rd_L8 ah x24_1).length c343_0] rfl (by (try simp only [List.map_toArray, List.map_cons, List.map_nil]); first | done | rfl) ?_; (with_reducible refine (plist_May.calls k1 _ _ (rd_L8 ah x24_1) t344 _ ?side1 ?side2 A10.out).mono ?_); (case side1 => repeat (first | exact (by repeat (first | (with_reducible exact ai.out) | (with_reducible refine Kd.C_alloc ?_ _) | (with_reducible refine Kd.C_drewN ?_ _) | (with_reducible refine Kd.C_drew ?_) | exact ai.out)) | (with_reducible refine Kd.C_alloc ?_ _) | (with_reducible refine Kd.C_drewN ?_ _) | (with_reducible refine Kd.C_drew ?_))); (case side2 => exact HC343_0.out); rintro e w12 ⟨rfl, hb⟩; refine ⟨_, rfl, ?_⟩; replace HO_0 := Aside0.mk (Kd.V_below (by (with_reducible repeat (first | apply Kd.V_alloc | apply Kd.V_drewN | apply Kd.V_drew)); exact HO_0.out) hb); replace HO_1 := Aside0.mk (Kd.V_below (by (with_reducible repeat (first | apply Kd.V_alloc | apply Kd.V_drewN | apply Kd.V_drew)); exact HO_1.out) hb); replace HO_22 := Aside0.mk (Kd.N_below (by (with_reducible repeat (first | apply Kd.N_alloc | apply Kd.N_drewN | apply Kd.N_drew)); exact HO_22.out) hb); replace HL343_0 := Aside0.mk (Kd.V_below (by (with_reducible repeat (first | apply Kd.V_alloc | apply Kd.V_drewN | apply Kd.V_drew)); exact HL343_0.out) hb); replace ac := Aside0.mk (blk_below (g := aa) (by (with_reducible repeat (first | refine blk_drewN ?_ _ | refine blk_drew ?_ | refine blk_alloc ?_ _)); exact ac.out) hb); replace ai := Aside0.mk (Kd.C_below (by repeat (first | (with_reducible exact ai.out) | (with_reducible refine Kd.C_alloc ?_ _) | (with_reducible refine Kd.C_drewN ?_ _) | (with_reducible refine Kd.C_drew ?_) | exact ai.out)) hb); replace HB := Aside0.mk (below_step (by repeat (first | (with_reducible first | exact HB.out | apply below_alloc | apply pw_below_drewN | apply below_drew1 | refine below_set ?_ af.out) | exact HB.out)) hb); (try clear hb); (try clear hb2); (try clear hk); (try clear hi)))
       go_roundg k1
       case measure => have := HK1.out; omega
       case rel => exact ⟨(wrap64 (x24_1 + 1)), (x340000_1), (x340001_1), (by first | rfl | (simp; done) | (simp [*]; done)), H', ⟨by have := HK1.out; omega⟩, ⟨by (with_reducible repeat (first | apply Kd.V_alloc | apply Kd.V_drewN | apply Kd.V_drew)); exact HO_0.out⟩, ⟨by (with_reducible repeat (first | apply Kd.V_alloc | apply Kd.V_drewN | apply Kd.V_drew)); exact HO_1.out⟩, ⟨by (with_reducible repeat (first | apply Kd.N_alloc | apply Kd.N_drewN | apply Kd.N_drew)); exact HO_22.out⟩, ⟨by (with_reducible repeat (first | refine blk_drewN ?_ _ | refine blk_drew ?_ | refine blk_alloc ?_ _)); exact ac.out⟩, ⟨by repeat (first | (with_reducible first | exact HB.out | apply below_alloc | apply pw_below_drewN | apply below_drew1 | refine below_set ?_ af.out) | exact HB.out)⟩⟩
      ·rw [if_neg ao] at H
       have c11b0 : (t344 == 0) = false := beq_eq_false_iff_ne.mpr ao
       have c11b1 : (t344 != 0) = true := bne_iff_ne.mpr ao
       simp only [Option.some.injEq, Prod.mk.injEq] at H
       obtain ⟨rfl, rfl, rfl, rfl⟩ := H
       have p343 : 0 ≤ (x24_1 : Int) := of_decide_eq_true (by first | (with_reducible assumption) | assumption)
       have q343 : x24_1 < (ah.length : Int) := of_decide_eq_true (by first | (with_reducible assumption) | assumption)
       obtain ⟨ad343, A343_0, c343_0, e343, hx343_0, hl343_0, hi343_0⟩ := at_L8 (Kd.N_reads' HO_22.out).2.2 x24_1 p343 q343
       (try (injection e343 with e343; replace e343 := e343.symm; subst e343; have e343 : True := trivial))
       cases e343
       obtain ⟨ce343, hce343, hMe343, hcc343⟩ := Kd.N_get HO_22.out [] x24_1 p343 (by first | exact q343 | exact of_decide_eq_true (by first | (with_reducible assumption) | assumption) | (have e_ := (Kd.N_reads' HO_22.out).1; omega))
       obtain ⟨ua343_0, uc343_0, rfl, ul343_0, ge343_0⟩ := Kd.FK_slice_open hMe343
       have hv343_0 := hcc343 0 _ rfl
       rw [Nat.add_zero, show ((Kd.slice 26 k26)).sz = 1 from rfl, Nat.mul_one] at hv343_0
       replace hv343_0 := Option.some.inj (hv343_0.symm.trans hx343_0)
       injection hv343_0 with hva_ hvn_ hvc_
       rw [hva_] at ge343_0
       rw [hvc_] at ul343_0
       have HL343_0 := Aside0.mk (show Kd.V k26 26 _ w.heap.size _ _ (rd_L8 ah x24_1) from Kd.V_mk ul343_0 ge343_0)
       clear hva_ hvn_ hvc_ ge343_0 ul343_0
       clear hcc343 hce343
       have ai := Aside0.mk hi343_0
       have HC343_0 := Aside0.mk hl343_0
       clear hi343_0 hl343_0
       replace p343 := eq_true p343
       replace q343 := eq_true q343
       go_wps (first | ((with_reducible refine gate_callee (f := 15) rfl ?_); refine goesL_ (some 29) rfl rfl Try.func15 (by kernel_rfl) rfl #[.slice A343_0 (rd_L8 ah x24_1).length c343_0] rfl (by (try simp only [List.map_toArray, List.map_cons, List.map_nil]); first | done | rfl) ?_; (with_reducible refine (plist_May.calls k1 _ _ (rd_L8 ah x24_1) t344 _ ?side1 ?side2 A10.out).mono ?_); (case side1 => repeat (first | exact (by repeat (first | (with_reducible exact ai.out) | (with_reducible refine Kd.C_alloc ?_ _) | (with_reducible refine Kd.C_drewN ?_ _) | (with_reducible refine Kd.C_drew ?_) | exact ai.out)) | (with_reducible refine Kd.C_alloc ?_ _) | (with_reducible refine Kd.C_drewN ?_ _) | (with_reducible refine Kd.C_drew ?_))); (case side2 => exact HC343_0.out); rintro e w13 ⟨rfl, hb⟩; refine ⟨_, rfl, ?_⟩; replace HO_0 := Aside0.mk (Kd.V_below (by (with_reducible repeat (first | apply Kd.V_alloc | apply Kd.V_drewN | apply Kd.V_drew)); exact HO_0.out) hb); replace HO_1 := Aside0.mk (Kd.V_below (by (with_reducible repeat (first | apply Kd.V_alloc | apply Kd.V_drewN | apply Kd.V_drew)); exact HO_1.out) hb); replace HO_22 := Aside0.mk (Kd.N_below (by (with_reducible repeat (first | apply Kd.N_alloc | apply Kd.N_drewN | apply Kd.N_drew)); exact HO_22.out) hb); replace HL343_0 := Aside0.mk (Kd.V_below (by (with_reducible repeat (first | apply Kd.V_alloc | apply Kd.V_drewN | apply Kd.V_drew)); exact HL343_0.out) hb); replace ac := Aside0.mk (blk_below (g := aa) (by (with_reducible repeat (first | refine blk_drewN ?_ _ | refine blk_drew ?_ | refine blk_alloc ?_ _)); exact ac.out) hb); replace ai := Aside0.mk (Kd.C_below (by repeat (first | (with_reducible exact ai.out) | (with_reducible refine Kd.C_alloc ?_ _) | (with_reducible refine Kd.C_drewN ?_ _) | (with_reducible refine Kd.C_drew ?_) | exact ai.out)) hb); replace HB := Aside0.mk (below_step (by repeat (first | (with_reducible first | exact HB.out | apply below_alloc | apply pw_below_drewN | apply below_drew1 | refine below_set ?_ af.out) | exact HB.out)) hb); (try clear hb); (try clear hb2); (try clear hk); (try clear hi); have hcz14_0 : w13.cell? ⟨aa, 0, none⟩ = some (.int .u32 x340000_1) := (blk_cell ac.out 0).trans rfl; have hcz14_1 : w13.cell? ⟨aa, 1, none⟩ = some (.int .i64 x340001_1) := (blk_cell ac.out 1).trans rfl; have hfz14_0 := blk_frozen ac.out 0; have hfz14_1 := blk_frozen ac.out 1))
       refine bodyPost_ret (results_ctt rfl _ _ aa 24 #[.int .u32 0, .int .i64 0] (0, 0) _ rfl (by (with_reducible repeat (first | refine blk_drewN ?_ _ | refine blk_drew ?_ | refine blk_alloc ?_ _)); refine blk_put (cs := #[.int .u32 0, .int .i64 x340001_1]) ?_ 1 _ (by first | rfl | (simp; done) | (simp; omega)); (with_reducible repeat (first | refine blk_drewN ?_ _ | refine blk_drew ?_ | refine blk_alloc ?_ _)); refine blk_put (cs := #[.int .u32 x340000_1, .int .i64 x340001_1]) ?_ 0 _ (by first | rfl | (simp; done) | (simp; omega)); (with_reducible repeat (first | refine blk_drewN ?_ _ | refine blk_drew ?_ | refine blk_alloc ?_ _)); exact ac.out) Try.underlying24 rfl (by kernel_rfl)) rfl ?_
       exact ⟨by first | rfl | (simp [errW_none, errW_some] <;> rfl) | (simp [*, errW_none, errW_some] <;> rfl), by repeat (first | (with_reducible first | exact HB.out | apply below_alloc | apply pw_below_drewN | apply below_drew1 | refine below_set ?_ af.out) | exact HB.out)⟩
     ·rw [if_neg c9] at H
      exact absurd H (by simp)
    ·rw [if_neg c8] at H
     exact absurd H (by simp)
   ·rw [if_neg c7] at H
    have c7b0 : decide (x24_1 < (ah.length : Int)) = false := decide_eq_false c7
    clear c7
    obtain ⟨y345, hy345⟩ : ∃ y_ : List (List (S26)), y_ = (([l0, l1] : List (List (S26)))) := ⟨_, rfl⟩
    replace H : ((api_Range_40.f y345).bind fun t348 => (plist_Differ.l1 k1 l0 l1 t348 false 0 0 0)) = some (r1, r2, r3, r4) := by first | (rw [hy345]; with_reducible exact H) | (have H2_ := (Option.bind_some _ _).symm.trans H; rw [hy345]; with_reducible exact H2_) | (have H2_ := (Option.bind_some _ _).symm.trans H; with_reducible exact H2_) | with_reducible exact H | (rw [hy345]; exact H) | exact H
    have Ny345 := Aside0.mk hy345
    clear hy345
    replace H := Option.bind_eq_some_iff.mp H
    obtain ⟨t348, A150, H⟩ := H
    replace H : (plist_Differ.l1 k1 l0 l1 t348 false 0 0 0) = some (r1, r2, r3, r4) := H
    have A15 := Aside0.mk A150
    clear A150
    have H' := Aside0.mk H
    clear H
    go_wps (first | ((with_reducible refine gate_dst (N := 37) rfl ?_); refine Kd.N_lit (Kd.slice 26 k26) _ 31 ?hg (N' := 37) ?hd (xs := ([l0, l1] : List (List (S26)))) (inner := [.slice A0 l0.length c0, .slice A1 l1.length c1]) (ok := (fun k_ => ((P0_ k_ ∨ P1_ k_) ∨ w.heap.size ≤ k_) ∧ some k_ ≠ (.slice am ah.length an : Value).ownBlock ∧ k_ ≠ aa)) (okp := (fun k_ => ((P0_ k_ ∨ P1_ k_) ∨ w.heap.size ≤ k_) ∧ some k_ ≠ (.slice am ah.length an : Value).ownBlock ∧ k_ ≠ aa)) ?hr ?hp (fun _ hk => hk) ((show ∀ k_, wr.heap.size ≤ k_ → (fun k_ => ((P0_ k_ ∨ P1_ k_) ∨ w.heap.size ≤ k_) ∧ some k_ ≠ (.slice am ah.length an : Value).ownBlock ∧ k_ ≠ aa) k_ from fun k_ hk => ⟨(.inr (Nat.le_trans (below_size (by repeat (first | (with_reducible first | exact HB.out | apply below_alloc | apply pw_below_drewN | apply below_drew1 | refine below_set ?_ af.out) | exact HB.out))) hk)), Kd.fresh' (Kd.N_lt (by (with_reducible repeat (first | apply Kd.N_alloc | apply Kd.N_drewN | apply Kd.N_drew)); exact HO_22.out)) k_ hk, Kd.freshB (g := aa) (o := .cells #[.int .u32 x340000_1, .int .i64 x340001_1] 24 (0, 0)) (by (with_reducible repeat (first | refine blk_drewN ?_ _ | refine blk_drew ?_ | refine blk_alloc ?_ _)); exact ac.out) k_ hk⟩) _ (Nat.le_refl _)) (Below.refl _ _) (Nat.le_refl _) (by simp) ?_; (case hd => rfl); (case hg => rfl); (case hr => first | (go_simp; done) | (go_simp; rfl)); (case hp => exact (Reps.one (show Kd.FK (Kd.slice 26 k26) _ _ l0 [.slice A0 l0.length c0] from (Kd.FK_slice_mk (Kd.V_reads' (Kd.V_mono (ok' := (fun k_ => ((P0_ k_ ∨ P1_ k_) ∨ w.heap.size ≤ k_) ∧ some k_ ≠ (.slice am ah.length an : Value).ownBlock ∧ k_ ≠ aa)) (HO_0.out) (fun k_ hk => ⟨hk.1, ⟨hk.2.1, hk.2.2⟩⟩))).2.1 (Kd.V_F (Kd.V_mono (ok' := (fun k_ => ((P0_ k_ ∨ P1_ k_) ∨ w.heap.size ≤ k_) ∧ some k_ ≠ (.slice am ah.length an : Value).ownBlock ∧ k_ ≠ aa)) (HO_0.out) (fun k_ hk => ⟨hk.1, ⟨hk.2.1, hk.2.2⟩⟩))))) (Reps.one (show Kd.FK (Kd.slice 26 k26) _ _ l1 [.slice A1 l1.length c1] from (Kd.FK_slice_mk (Kd.V_reads' (Kd.V_mono (ok' := (fun k_ => ((P0_ k_ ∨ P1_ k_) ∨ w.heap.size ≤ k_) ∧ some k_ ≠ (.slice am ah.length an : Value).ownBlock ∧ k_ ≠ aa)) (HO_1.out) (fun k_ hk => ⟨hk.1, ⟨hk.2.1, hk.2.2⟩⟩))).2.1 (Kd.V_F (Kd.V_mono (ok' := (fun k_ => ((P0_ k_ ∨ P1_ k_) ∨ w.heap.size ≤ k_) ∧ some k_ ≠ (.slice am ah.length an : Value).ownBlock ∧ k_ ≠ aa)) (HO_1.out) (fun k_ hk => ⟨hk.1, ⟨hk.2.1, hk.2.2⟩⟩))))) (Reps.none _ _)))); intro v346 w16 ho17 hb hg_ hnew_; clear hg_ hnew_; (first | rw [← Ny345.out] at ho17 | (simp only [Int.reduceToNat] at ho17; rw [← Ny345.out] at ho17)); replace HO_0 := Aside0.mk (Kd.V_elder' (by (with_reducible repeat (first | apply Kd.V_alloc | apply Kd.V_drewN | apply Kd.V_drew)); exact HO_0.out) (Kd.N_base ho17) hb); replace HO_1 := Aside0.mk (Kd.V_elder' (by (with_reducible repeat (first | apply Kd.V_alloc | apply Kd.V_drewN | apply Kd.V_drew)); exact HO_1.out) (Kd.N_base ho17) hb); replace HO_22 := Aside0.mk (Kd.N_elder' (by (with_reducible repeat (first | apply Kd.N_alloc | apply Kd.N_drewN | apply Kd.N_drew)); exact HO_22.out) (Kd.N_base ho17) hb); have ak := Aside0.mk (Kd.N_lower ho17 (below_size (by repeat (first | (with_reducible first | exact HB.out | apply below_alloc | apply pw_below_drewN | apply below_drew1 | refine below_set ?_ af.out) | exact HB.out)))); replace ac := Aside0.mk (blk_below (g := aa) (by (with_reducible repeat (first | refine blk_drewN ?_ _ | refine blk_drew ?_ | refine blk_alloc ?_ _)); exact ac.out) hb); replace HB := Aside0.mk (below_step (by repeat (first | (with_reducible first | exact HB.out | apply below_alloc | apply pw_below_drewN | apply below_drew1 | refine below_set ?_ af.out) | exact HB.out)) hb); clear hb ho17; obtain ⟨Ao18, co18, eo18⟩ := Kd.N_slice ak.out; subst eo18) | ((with_reducible refine gate_callee (f := 40) rfl ?_); refine goesL_ (some 38) rfl rfl Try.func40 (by kernel_rfl) rfl #[.slice Ao18 y345.length co18] rfl (by (try simp only [List.map_toArray, List.map_cons, List.map_nil]); first | done | rfl) ?_; (with_reducible refine (api_Range_40.calls _ _ y345 t348 _ ?side1 ?side2 A15.out).mono ?_); (case side1 => repeat (first | exact (Kd.N_reads' ak.out).2.2 | (with_reducible refine Kd.C_alloc ?_ _) | (with_reducible refine Kd.C_drewN ?_ _) | (with_reducible refine Kd.C_drew ?_))); (case side2 => exact (Kd.N_reads' ak.out).2.1); rintro e w19 ⟨v349, rfl, ho0, hb⟩; refine ⟨_, rfl, ?_⟩; replace HO_0 := Aside0.mk (Kd.V_elder' (by (with_reducible repeat (first | apply Kd.V_alloc | apply Kd.V_drewN | apply Kd.V_drew)); exact HO_0.out) (Kd.R_base ho0) hb); replace HO_1 := Aside0.mk (Kd.V_elder' (by (with_reducible repeat (first | apply Kd.V_alloc | apply Kd.V_drewN | apply Kd.V_drew)); exact HO_1.out) (Kd.R_base ho0) hb); replace HO_22 := Aside0.mk (Kd.N_elder' (by (with_reducible repeat (first | apply Kd.N_alloc | apply Kd.N_drewN | apply Kd.N_drew)); exact HO_22.out) (Kd.R_base ho0) hb); replace ak := Aside0.mk (Kd.N_elder' (by (with_reducible repeat (first | apply Kd.N_alloc | apply Kd.N_drewN | apply Kd.N_drew)); exact ak.out) (Kd.R_base ho0) hb); have HO350 := Aside0.mk (Kd.R_lower (Kd.R_newM (M := fun k_ => (w.heap.size ≤ k_)) ho0 (below_size (by repeat (first | (with_reducible first | exact HB.out | apply below_alloc | apply pw_below_drewN | apply below_drew1 | refine below_set ?_ af.out) | exact HB.out))) (fun k_ h_ => h_)) (below_size (by repeat (first | (with_reducible first | exact HB.out | apply below_alloc | apply pw_below_drewN | apply below_drew1 | refine below_set ?_ af.out) | exact HB.out)))); replace ac := Aside0.mk (blk_below (g := aa) (by (with_reducible repeat (first | refine blk_drewN ?_ _ | refine blk_drew ?_ | refine blk_alloc ?_ _)); exact ac.out) hb); replace HB := Aside0.mk (below_step (by repeat (first | (with_reducible first | exact HB.out | apply below_alloc | apply pw_below_drewN | apply below_drew1 | refine below_set ?_ af.out) | exact HB.out)) hb); (try clear hb); (try clear hb2); (try clear hk); (try clear hi); (try clear ho0)) | ((with_reducible refine gate_dst (N := 11) rfl ?_); refine box_event ?hg (N := 11) ?hd (cs := #[.int .u32 0, .int .i64 0]) (t := 24) ?hr ?_; (case hd => rfl); (case hg => rfl); (case hr => first | (go_simp; done) | (go_simp; rfl)); intro ad hg w20 hbox hb; have n0_ := Aside0.mk (Kd.V_below (Kd.V_elderB (by (with_reducible repeat (first | apply Kd.V_alloc | apply Kd.V_drewN | apply Kd.V_drew)); exact HO_0.out) ad (Nat.le_of_eq hg.symm)) hb); have n1_ := Aside0.mk (Kd.V_below (Kd.V_elderB (by (with_reducible repeat (first | apply Kd.V_alloc | apply Kd.V_drewN | apply Kd.V_drew)); exact HO_1.out) ad (Nat.le_of_eq hg.symm)) hb); have n2_ := Aside0.mk (Kd.N_below (Kd.N_elderB (by (with_reducible repeat (first | apply Kd.N_alloc | apply Kd.N_drewN | apply Kd.N_drew)); exact HO_22.out) ad (Nat.le_of_eq hg.symm)) hb); have n3_ := Aside0.mk (Kd.N_below (Kd.N_elderB (by (with_reducible repeat (first | apply Kd.N_alloc | apply Kd.N_drewN | apply Kd.N_drew)); exact ak.out) ad (Nat.le_of_eq hg.symm)) hb); have n4_ := Aside0.mk (Kd.R_below (by (with_reducible repeat (first | apply Kd.R_alloc | apply Kd.R_drewN | apply Kd.R_drew)); exact HO350.out) hb); have n5_ := Aside0.mk (blk_below (g := aa) (by (with_reducible repeat (first | refine blk_drewN ?_ _ | refine blk_drew ?_ | refine blk_alloc ?_ _)); exact ac.out) hb); have n6_ := Aside0.mk (below_step (by repeat (first | (with_reducible first | exact HB.out | apply below_alloc | apply pw_below_drewN | apply below_drew1 | refine below_set ?_ af.out) | exact HB.out)) hb); have n7_ := Aside0.mk (hbox); have n8_ := Aside0.mk ((by rw [hg]; exact (below_size (by repeat (first | (with_reducible first | exact HB.out | apply below_alloc | apply pw_below_drewN | apply below_drew1 | refine below_set ?_ af.out) | exact HB.out))) : w.heap.size ≤ ad)); have n9_ := Aside0.mk ((by rw [hg]; exact (below_size (by repeat (first | (with_reducible first | exact HB.out | apply below_alloc | apply pw_below_drewN | apply below_drew1 | refine below_set ?_ af.out) | exact HB.out))) : w.heap.size ≤ ad)); have n10_ := Aside0.mk ((by rw [hg]; exact Nat.ne_of_lt (blk_lt (g := aa) (o := .cells #[.int .u32 x340000_1, .int .i64 x340001_1] 24 (0, 0)) (by (with_reducible repeat (first | refine blk_drewN ?_ _ | refine blk_drew ?_ | refine blk_alloc ?_ _)); exact ac.out)) : aa ≠ ad)); have n11_ := Aside0.mk ((by rw [hg]; exact Nat.ne_of_gt (blk_lt (g := aa) (o := .cells #[.int .u32 x340000_1, .int .i64 x340001_1] 24 (0, 0)) (by (with_reducible repeat (first | refine blk_drewN ?_ _ | refine blk_drew ?_ | refine blk_alloc ?_ _)); exact ac.out)) : ad ≠ aa)); clear HO_0; clear HO_1; clear HO_22; clear ak; clear HO350; clear ac; clear HB; have HO_0 := n0_; have HO_1 := n1_; have HO_22 := n2_; have ak := n3_; have HO350 := n4_; have ac := n5_; have HB := n6_; have ae := n7_; have GW351 := n8_; have aj := n9_; have NB339_351 := n10_; have NB351_339 := n11_; clear n0_ n1_ n2_ n3_ n4_ n5_ n6_ n7_ n8_ n9_ n10_ n11_; clear hb hbox hg; have hnb21 := NB351_339.out; have hnc21 := NB339_351.out; have hcz22_0 : w20.cell? ⟨ad, 0, none⟩ = some (.int .u32 0) := (blk_cell ae.out 0).trans rfl; have hcz22_1 : w20.cell? ⟨ad, 1, none⟩ = some (.int .i64 0) := (blk_cell ae.out 1).trans rfl; have hfz22_0 := blk_frozen ae.out 0; have hfz22_1 := blk_frozen ae.out 1))
    go_loopg [12, 40] k1 (fun kq v12 v40 w' => ∃ (x12_2 : Bool) (x40_2 : Int) (x352000_2 : Int) (x352001_2 : Int), v12 = .bool x12_2 ∧ v40 = .int .i64 x40_2 ∧ Aside0 (plist_Differ.l1 kq l0 l1 t348 x12_2 x40_2 x352000_2 x352001_2 = some (r1, r2, r3, r4)) ∧ Aside0 (kq ≤ k1) ∧ Aside0 (Kd.V k26 26 w' w.heap.size (fun k_ => ((P0_ k_ ∨ P1_ k_) ∨ w.heap.size ≤ k_) ∧ some k_ ≠ (v349 : Value).ownBlock ∧ k_ ≠ aa ∧ k_ ≠ ad) (.slice A0 l0.length c0) l0) ∧ Aside0 (Kd.V k26 26 w' w.heap.size (fun k_ => ((P0_ k_ ∨ P1_ k_) ∨ w.heap.size ≤ k_) ∧ some k_ ≠ (v349 : Value).ownBlock ∧ k_ ≠ aa ∧ k_ ≠ ad) (.slice A1 l1.length c1) l1) ∧ Aside0 (Kd.R k26 26 w' w.heap.size (fun k_ => (w.heap.size ≤ k_)) v349 t348) ∧ Aside0 (w'.heap[aa]? = some (.cells #[.int .u32 x340000_1, .int .i64 x340001_1] 24 (0, 0))) ∧ Aside0 (w'.heap[ad]? = some (.cells #[.int .u32 x352000_2, .int .i64 x352001_2] 24 (0, 0))) ∧ Aside0 (Below w.heap.size w w'))
    case atStart => exact ⟨(false), (0), (0), (0), (by first | rfl | (simp; done) | (simp [*]; done)), (by first | rfl | (simp; done) | (simp [*]; done)), H', ⟨Nat.le_refl _⟩, ⟨by (with_reducible repeat (first | apply Kd.V_alloc | apply Kd.V_drewN | apply Kd.V_drew)); exact Kd.V_mono (Kd.V_far (p := ⟨ad, 1, none⟩) (Kd.V_far (p := ⟨ad, 0, none⟩) (Kd.V_mono HO_0.out (fun k_ hk => (⟨hk, hk.2⟩ : _ ∧ k_ ≠ ad))) (fun _ hk => hk.2) (.int .u32 0)) (fun _ hk => hk.2) (.int .i64 0)) (fun _ hk => ⟨hk.1.1.1.1.1, ⟨hk.1.1.2, ⟨hk.1.1.1.1.2.2, hk.1.2⟩⟩⟩)⟩, ⟨by (with_reducible repeat (first | apply Kd.V_alloc | apply Kd.V_drewN | apply Kd.V_drew)); exact Kd.V_mono (Kd.V_far (p := ⟨ad, 1, none⟩) (Kd.V_far (p := ⟨ad, 0, none⟩) (Kd.V_mono HO_1.out (fun k_ hk => (⟨hk, hk.2⟩ : _ ∧ k_ ≠ ad))) (fun _ hk => hk.2) (.int .u32 0)) (fun _ hk => hk.2) (.int .i64 0)) (fun _ hk => ⟨hk.1.1.1.1.1, ⟨hk.1.1.2, ⟨hk.1.1.1.1.2.2, hk.1.2⟩⟩⟩)⟩, ⟨by (with_reducible repeat (first | apply Kd.R_alloc | apply Kd.R_drewN | apply Kd.R_drew)); exact Kd.R_mono (Kd.R_far (p := ⟨ad, 1, none⟩) (Kd.R_far (p := ⟨ad, 0, none⟩) (Kd.R_types HO350.out ae.out (by decide)) (fun _ hk => hk.2) (.int .u32 0)) (fun _ hk => hk.2) (.int .i64 0)) (fun _ hk => hk.1.1)⟩, ⟨by (with_reducible repeat (first | refine blk_drewN ?_ _ | refine blk_drew ?_ | refine blk_alloc ?_ _)); refine blk_far ?_ NB339_351.out _; (with_reducible repeat (first | refine blk_drewN ?_ _ | refine blk_drew ?_ | refine blk_alloc ?_ _)); refine blk_far ?_ NB339_351.out _; (with_reducible repeat (first | refine blk_drewN ?_ _ | refine blk_drew ?_ | refine blk_alloc ?_ _)); exact ac.out⟩, ⟨by (with_reducible repeat (first | refine blk_drewN ?_ _ | refine blk_drew ?_ | refine blk_alloc ?_ _)); refine blk_put (cs := #[.int .u32 0, .int .i64 0]) ?_ 1 _ (by first | rfl | (simp; done) | (simp; omega)); (with_reducible repeat (first | refine blk_drewN ?_ _ | refine blk_drew ?_ | refine blk_alloc ?_ _)); refine blk_put (cs := #[.int .u32 0, .int .i64 0]) ?_ 0 _ (by first | rfl | (simp; done) | (simp; omega)); (with_reducible repeat (first | refine blk_drewN ?_ _ | refine blk_drew ?_ | refine blk_alloc ?_ _)); exact ae.out⟩, ⟨by repeat (first | (with_reducible first | exact HB.out | apply below_alloc | apply pw_below_drewN | apply below_drew1 | refine below_set ?_ af.out | refine below_set ?_ aj.out) | exact HB.out)⟩⟩
    case round =>
     clear H'
     try clear c1
     try clear c2
     try clear p2
     try clear c3
     try clear p3
     try clear q3
     try clear hx3
     try clear c4
     try clear p6
     try clear c7
     try clear c7b0
     try clear c8
     try clear c8b0
     try clear c9
     try clear c9b0
     try clear ao
     try clear c11b0
     try clear c11b1
     try clear c15
     try clear c21
     try clear hcz14_0
     try clear hcz14_1
     try clear hcz22_0
     try clear hcz22_1
     try clear hfz14_0
     try clear hfz14_1
     try clear hfz22_0
     try clear hfz22_1
     try clear hx343_0
     try clear p2
     try clear p3
     try clear p343
     try clear q343
     obtain ⟨x12_2, x40_2, x352000_2, x352001_2, rfl, rfl, HA, HK2, HO_0, HO_1, HO_10, ac, ae, HB⟩ := hrel
     cases gk with
     | zero => exact absurd HA.out (by simp [plist_Differ.l1])
     | succ k2 =>
      have H := HA.out
      clear HA
      simp only [plist_Differ.l1] at H
      by_cases c23 : x40_2 < 33
      ·rw [if_pos c23] at H
       have c23b0 : decide (x40_2 < 33) = true := decide_eq_true c23
       clear c23
       replace H := Option.bind_eq_some_iff.mp H
       obtain ⟨t352, A240, H⟩ := H
       (try dsimp only at H)
       have A24 := Aside0.mk A240
       clear A240
       have H' := Aside0.mk H
       clear H
       obtain ⟨Ao25, co25, eo25⟩ := Kd.R_slice HO_10.out
       subst eo25
       go_wps (first | ((with_reducible refine gate_callee (f := 41) rfl ?_); refine goesL_ (some 45) rfl rfl Try.func41 (by kernel_rfl) rfl #[.slice Ao25 t348.length co25, .int .i64 x40_2] rfl (by (try simp only [List.map_toArray, List.map_cons, List.map_nil]); first | done | rfl) ?_; (with_reducible refine (plist_samples.calls _ _ t348 x40_2 t352 _ ?side1 ?side2 A24.out).mono ?_); (case side1 => repeat (first | exact (Kd.R_reads' HO_10.out).2.2 | (with_reducible refine Kd.C_alloc ?_ _) | (with_reducible refine Kd.C_drewN ?_ _) | (with_reducible refine Kd.C_drew ?_))); (case side2 => exact (Kd.R_reads' HO_10.out).2.1); rintro e w26 ⟨v353, rfl, ho0, hb⟩; refine ⟨_, rfl, ?_⟩; replace HO_0 := Aside0.mk (Kd.V_elder' (by (with_reducible repeat (first | apply Kd.V_alloc | apply Kd.V_drewN | apply Kd.V_drew)); exact HO_0.out) (Kd.R_base ho0) hb); replace HO_1 := Aside0.mk (Kd.V_elder' (by (with_reducible repeat (first | apply Kd.V_alloc | apply Kd.V_drewN | apply Kd.V_drew)); exact HO_1.out) (Kd.R_base ho0) hb); replace HO_10 := Aside0.mk (Kd.R_below (by (with_reducible repeat (first | apply Kd.R_alloc | apply Kd.R_drewN | apply Kd.R_drew)); exact HO_10.out) hb); have HO354 := Aside0.mk (Kd.R_lower (Kd.R_newB (Kd.R_newB (Kd.R_newM (M := fun k_ => (w.heap.size ≤ k_)) ho0 (below_size (by repeat (first | (with_reducible first | exact HB.out | apply below_alloc | apply pw_below_drewN | apply below_drew1 | refine below_set ?_ af.out | refine below_set ?_ aj.out) | exact HB.out))) (fun k_ h_ => h_)) (g := aa) (o := .cells #[.int .u32 x340000_1, .int .i64 x340001_1] 24 (0, 0)) (by (with_reducible repeat (first | refine blk_drewN ?_ _ | refine blk_drew ?_ | refine blk_alloc ?_ _)); exact ac.out)) (g := ad) (o := .cells #[.int .u32 x352000_2, .int .i64 x352001_2] 24 (0, 0)) (by (with_reducible repeat (first | refine blk_drewN ?_ _ | refine blk_drew ?_ | refine blk_alloc ?_ _)); exact ae.out)) (below_size (by repeat (first | (with_reducible first | exact HB.out | apply below_alloc | apply pw_below_drewN | apply below_drew1 | refine below_set ?_ af.out | refine below_set ?_ aj.out) | exact HB.out)))); replace ac := Aside0.mk (blk_below (g := aa) (by (with_reducible repeat (first | refine blk_drewN ?_ _ | refine blk_drew ?_ | refine blk_alloc ?_ _)); exact ac.out) hb); replace ae := Aside0.mk (blk_below (g := ad) (by (with_reducible repeat (first | refine blk_drewN ?_ _ | refine blk_drew ?_ | refine blk_alloc ?_ _)); exact ae.out) hb); replace HB := Aside0.mk (below_step (by repeat (first | (with_reducible first | exact HB.out | apply below_alloc | apply pw_below_drewN | apply below_drew1 | refine below_set ?_ af.out | refine below_set ?_ aj.out) | exact HB.out)) hb); (try clear hb); (try clear hb2); (try clear hk); (try clear hi); (try clear ho0); obtain ⟨Ao27, co27, eo27⟩ := Kd.R_slice HO354.out; subst eo27))
       go_loopg [12, 47] k2 (fun kq v12 v47 w' => ∃ (x12_3 : Bool) (x47_3 : Int) (x352000_3 : Int) (x352001_3 : Int), v12 = .bool x12_3 ∧ v47 = .int .i64 x47_3 ∧ Aside0 (plist_Differ.l2 kq l0 l1 t348 x12_3 x40_2 t352 (t352.length : Int) x47_3 x352000_3 x352001_3 = some (r1, r2, r3, r4)) ∧ Aside0 (kq ≤ k2) ∧ Aside0 (Kd.V k26 26 w' w.heap.size (fun k_ => ((P0_ k_ ∨ P1_ k_) ∨ w.heap.size ≤ k_) ∧ some k_ ≠ ((.slice Ao25 t348.length co25) : Value).ownBlock ∧ some k_ ≠ ((.slice Ao27 t352.length co27) : Value).ownBlock ∧ k_ ≠ aa ∧ k_ ≠ ad) (.slice A0 l0.length c0) l0) ∧ Aside0 (Kd.V k26 26 w' w.heap.size (fun k_ => ((P0_ k_ ∨ P1_ k_) ∨ w.heap.size ≤ k_) ∧ some k_ ≠ ((.slice Ao25 t348.length co25) : Value).ownBlock ∧ some k_ ≠ ((.slice Ao27 t352.length co27) : Value).ownBlock ∧ k_ ≠ aa ∧ k_ ≠ ad) (.slice A1 l1.length c1) l1) ∧ Aside0 (Kd.R k26 26 w' w.heap.size (fun k_ => (w.heap.size ≤ k_)) (.slice Ao25 t348.length co25) t348) ∧ Aside0 (Kd.R k24 24 w' w.heap.size (fun k_ => (w.heap.size ≤ k_) ∧ k_ ≠ aa ∧ k_ ≠ ad) (.slice Ao27 t352.length co27) t352) ∧ Aside0 (w'.heap[aa]? = some (.cells #[.int .u32 x340000_1, .int .i64 x340001_1] 24 (0, 0))) ∧ Aside0 (w'.heap[ad]? = some (.cells #[.int .u32 x352000_3, .int .i64 x352001_3] 24 (0, 0))) ∧ Aside0 (Below w.heap.size w w'))
       case atStart => exact ⟨(x12_2), (0), (x352000_2), (x352001_2), (by first | rfl | (simp; done) | (simp [*]; done)), (by first | rfl | (simp; done) | (simp [*]; done)), H', ⟨Nat.le_refl _⟩, ⟨by (with_reducible repeat (first | apply Kd.V_alloc | apply Kd.V_drewN | apply Kd.V_drew)); exact Kd.V_mono HO_0.out (fun _ hk => ⟨hk.1.1, ⟨hk.1.2.1, ⟨hk.2, ⟨hk.1.2.2.1, hk.1.2.2.2⟩⟩⟩⟩)⟩, ⟨by (with_reducible repeat (first | apply Kd.V_alloc | apply Kd.V_drewN | apply Kd.V_drew)); exact Kd.V_mono HO_1.out (fun _ hk => ⟨hk.1.1, ⟨hk.1.2.1, ⟨hk.2, ⟨hk.1.2.2.1, hk.1.2.2.2⟩⟩⟩⟩)⟩, ⟨by (with_reducible repeat (first | apply Kd.R_alloc | apply Kd.R_drewN | apply Kd.R_drew)); exact HO_10.out⟩, ⟨by (with_reducible repeat (first | apply Kd.R_alloc | apply Kd.R_drewN | apply Kd.R_drew)); exact Kd.R_mono HO354.out (fun _ hk => ⟨hk.1.1.1, ⟨hk.1.2, hk.2⟩⟩)⟩, ⟨by (with_reducible repeat (first | refine blk_drewN ?_ _ | refine blk_drew ?_ | refine blk_alloc ?_ _)); exact ac.out⟩, ⟨by (with_reducible repeat (first | refine blk_drewN ?_ _ | refine blk_drew ?_ | refine blk_alloc ?_ _)); exact ae.out⟩, ⟨by repeat (first | (with_reducible first | exact HB.out | apply below_alloc | apply pw_below_drewN | apply below_drew1 | refine below_set ?_ af.out | refine below_set ?_ aj.out) | exact HB.out)⟩⟩
       case round =>
        clear H'
        try clear c1
        try clear c2
        try clear p2
        try clear c3
        try clear p3
        try clear q3
        try clear hx3
        try clear c4
        try clear p6
        try clear c7
        try clear c7b0
        try clear c8
        try clear c8b0
        try clear c9
        try clear c9b0
        try clear ao
        try clear c11b0
        try clear c11b1
        try clear c15
        try clear c21
        try clear c23
        try clear c23b0
        try clear c26
        try clear hcz14_0
        try clear hcz14_1
        try clear hcz22_0
        try clear hcz22_1
        try clear hfz14_0
        try clear hfz14_1
        try clear hfz22_0
        try clear hfz22_1
        try clear hx343_0
        try clear p2
        try clear p3
        try clear p343
        try clear p6
        try clear q3
        try clear q343
        obtain ⟨x12_3, x47_3, x352000_3, x352001_3, rfl, rfl, HA, HK3, HO_0, HO_1, HO_10, HO_45, ac, ae, HB⟩ := hrel
        cases gk with
        | zero => exact absurd HA.out (by simp [plist_Differ.l2])
        | succ k3 =>
         have H := HA.out
         clear HA
         simp only [plist_Differ.l2] at H
         by_cases c28 : x47_3 < (t352.length : Int)
         ·rw [if_pos c28] at H
          have c28b0 : decide (x47_3 < (t352.length : Int)) = true := decide_eq_true c28
          clear c28
          by_cases c29 : 0 ≤ x47_3
          ·rw [if_pos c29] at H
           have c29b0 : decide (0 ≤ x47_3) = true := decide_eq_true c29
           clear c29
           by_cases c30 : x47_3 < (t352.length : Int)
           ·rw [if_pos c30] at H
            have c30b0 : decide (x47_3 < (t352.length : Int)) = true := decide_eq_true c30
            clear c30
            replace H := Option.bind_eq_some_iff.mp H
            obtain ⟨⟨t357, t358⟩, A310, H⟩ := H
            (try dsimp only at H)
            have A31 := Aside0.mk A310
            clear A310
            replace H := Option.bind_eq_some_iff.mp H
            obtain ⟨⟨t359, t360⟩, A320, H⟩ := H
            (try dsimp only at H)
            have A32 := Aside0.mk A320
            clear A320
            by_cases al : (t357 != t359) = true
            ·rw [if_pos al] at H
             have c33b0 : (t357 != t359) = true := al
             (try (have c33b1 : decide (t357 = t359) = false := by simpa using al))
             (try (have c33b2 : (t357 == t359) = false := by simpa using al))
             (try (have c33b3 : ¬ (t357 = t359) := by simpa using al))
             clear al
             simp only [Option.some.injEq, Prod.mk.injEq] at H
             obtain ⟨rfl, rfl, rfl, rfl⟩ := H
             have p355 : 0 ≤ (x47_3 : Int) := of_decide_eq_true (by first | (with_reducible assumption) | assumption)
             have q355 : x47_3 < (t352.length : Int) := of_decide_eq_true (by first | (with_reducible assumption) | assumption)
             obtain ⟨ad355, e355, hx355_0, hx355_1⟩ := at_T24 (Kd.R_reads' HO_45.out).2.2 x47_3 p355 q355
             (try (injection e355 with e355; replace e355 := e355.symm; subst e355; have e355 : True := trivial))
             cases e355
             replace p355 := eq_true p355
             replace q355 := eq_true q355
             go_wps (first | ((with_reducible refine gate_dst (N := 15) rfl ?_); refine box_event ?hg (N := 15) ?hd (cs := #[.int .u32 0, .int .i64 0]) (t := 24) ?hr ?_; (case hd => rfl); (case hg => rfl); (case hr => first | (go_simp; done) | (go_simp; rfl)); intro ab hg w34 hbox hb; have n0_ := Aside0.mk (Kd.V_below (Kd.V_elderB (by (with_reducible repeat (first | apply Kd.V_alloc | apply Kd.V_drewN | apply Kd.V_drew)); exact HO_0.out) ab (Nat.le_of_eq hg.symm)) hb); have n1_ := Aside0.mk (Kd.V_below (Kd.V_elderB (by (with_reducible repeat (first | apply Kd.V_alloc | apply Kd.V_drewN | apply Kd.V_drew)); exact HO_1.out) ab (Nat.le_of_eq hg.symm)) hb); have n2_ := Aside0.mk (Kd.R_below (by (with_reducible repeat (first | apply Kd.R_alloc | apply Kd.R_drewN | apply Kd.R_drew)); exact HO_10.out) hb); have n3_ := Aside0.mk (Kd.R_below (Kd.R_elderB (by (with_reducible repeat (first | apply Kd.R_alloc | apply Kd.R_drewN | apply Kd.R_drew)); exact HO_45.out) ab (Nat.le_of_eq hg.symm)) hb); have n4_ := Aside0.mk (blk_below (g := aa) (by (with_reducible repeat (first | refine blk_drewN ?_ _ | refine blk_drew ?_ | refine blk_alloc ?_ _)); exact ac.out) hb); have n5_ := Aside0.mk (blk_below (g := ad) (by (with_reducible repeat (first | refine blk_drewN ?_ _ | refine blk_drew ?_ | refine blk_alloc ?_ _)); exact ae.out) hb); have n6_ := Aside0.mk (below_step (by repeat (first | (with_reducible first | exact HB.out | apply below_alloc | apply pw_below_drewN | apply below_drew1 | refine below_set ?_ af.out | refine below_set ?_ aj.out) | exact HB.out)) hb); have n7_ := Aside0.mk (hbox); have n8_ := Aside0.mk ((by rw [hg]; exact (below_size (by repeat (first | (with_reducible first | exact HB.out | apply below_alloc | apply pw_below_drewN | apply below_drew1 | refine below_set ?_ af.out | refine below_set ?_ aj.out) | exact HB.out))) : w.heap.size ≤ ab)); have n9_ := Aside0.mk ((by rw [hg]; exact (below_size (by repeat (first | (with_reducible first | exact HB.out | apply below_alloc | apply pw_below_drewN | apply below_drew1 | refine below_set ?_ af.out | refine below_set ?_ aj.out) | exact HB.out))) : w.heap.size ≤ ab)); have n10_ := Aside0.mk ((by rw [hg]; exact Nat.ne_of_lt (blk_lt (g := aa) (o := .cells #[.int .u32 x340000_1, .int .i64 x340001_1] 24 (0, 0)) (by (with_reducible repeat (first | refine blk_drewN ?_ _ | refine blk_drew ?_ | refine blk_alloc ?_ _)); exact ac.out)) : aa ≠ ab)); have n11_ := Aside0.mk ((by rw [hg]; exact Nat.ne_of_gt (blk_lt (g := aa) (o := .cells #[.int .u32 x340000_1, .int .i64 x340001_1] 24 (0, 0)) (by (with_reducible repeat (first | refine blk_drewN ?_ _ | refine blk_drew ?_ | refine blk_alloc ?_ _)); exact ac.out)) : ab ≠ aa)); have n12_ := Aside0.mk ((by rw [hg]; exact Nat.ne_of_lt (blk_lt (g := ad) (o := .cells #[.int .u32 x352000_3, .int .i64 x352001_3] 24 (0, 0)) (by (with_reducible repeat (first | refine blk_drewN ?_ _ | refine blk_drew ?_ | refine blk_alloc ?_ _)); exact ae.out)) : ad ≠ ab)); have n13_ := Aside0.mk ((by rw [hg]; exact Nat.ne_of_gt (blk_lt (g := ad) (o := .cells #[.int .u32 x352000_3, .int .i64 x352001_3] 24 (0, 0)) (by (with_reducible repeat (first | refine blk_drewN ?_ _ | refine blk_drew ?_ | refine blk_alloc ?_ _)); exact ae.out)) : ab ≠ ad)); clear HO_0; clear HO_1; clear HO_10; clear HO_45; clear ac; clear ae; clear HB; have HO_0 := n0_; have HO_1 := n1_; have HO_10 := n2_; have HO_45 := n3_; have ac := n4_; have ae := n5_; have HB := n6_; have ag := n7_; have GW356 := n8_; have GE356 := n9_; have NB339_356 := n10_; have NB356_339 := n11_; have NB351_356 := n12_; have NB356_351 := n13_; clear n0_ n1_ n2_ n3_ n4_ n5_ n6_ n7_ n8_ n9_ n10_ n11_ n12_ n13_; clear hb hbox hg; have hnb35 := NB356_339.out; have hnc35 := NB339_356.out; have hnb36 := NB356_351.out; have hnc36 := NB351_356.out; have hcz37_0 : w34.cell? ⟨ab, 0, none⟩ = some (.int .u32 0) := (blk_cell ag.out 0).trans rfl; have hcz37_1 : w34.cell? ⟨ab, 1, none⟩ = some (.int .i64 0) := (blk_cell ag.out 1).trans rfl; have hfz37_0 := blk_frozen ag.out 0; have hfz37_1 := blk_frozen ag.out 1) | ((with_reducible refine gate_callee (f := 13) rfl ?_); refine goesL_ (some 54) rfl rfl Try.func13 (by kernel_rfl) rfl #[.slice A0 l0.length c0, .agg #[.int .u32 ((rd_T24 t352 x47_3).f0), .int .i64 ((rd_T24 t352 x47_3).f1)]] rfl (by (try simp only [List.map_toArray, List.map_cons, List.map_nil]); first | done | rfl) ?_; (with_reducible refine (plist_Lets.calls k3 _ _ l0 ((rd_T24 t352 x47_3).f0) ((rd_T24 t352 x47_3).f1) t357 t358 _ ?side1 ?side2 A31.out).mono ?_); (case side1 => refine (Kd.V_reads' (e := 26) (base := w.heap.size) (ok := fun k_ => ((((P0_ k_ ∨ P1_ k_) ∨ w.heap.size ≤ k_) ∧ (some k_ ≠ (.slice Ao25 t348.length co25 : Value).ownBlock ∧ (some k_ ≠ (.slice (some ad355) t352.length co27 : Value).ownBlock ∧ (k_ ≠ aa ∧ k_ ≠ ad)))) ∧ k_ ≠ ab)) (n := l0.length) (c := c0) ?_).2.2; exact (by (with_reducible repeat (first | apply Kd.V_alloc | apply Kd.V_drewN | apply Kd.V_drew)); exact (Kd.V_mono (Kd.V_far (p := ⟨ab, 1, none⟩) (Kd.V_far (p := ⟨ab, 0, none⟩) (Kd.V_mono HO_0.out (fun k_ hk => (⟨hk, hk.2⟩ : _ ∧ k_ ≠ ab))) (fun _ hk => hk.2) (.int .u32 ((rd_T24 t352 x47_3).f0))) (fun _ hk => hk.2) (.int .i64 ((rd_T24 t352 x47_3).f1))) (fun _ h_ => h_.1)))); (case side2 => exact (Kd.V_reads' HO_0.out).2.1); rintro e w38 ⟨rfl, hb⟩; refine ⟨_, rfl, ?_⟩; replace HO_0 := Aside0.mk (Kd.V_below (by (with_reducible repeat (first | apply Kd.V_alloc | apply Kd.V_drewN | apply Kd.V_drew)); exact (Kd.V_mono (Kd.V_far (p := ⟨ab, 1, none⟩) (Kd.V_far (p := ⟨ab, 0, none⟩) (Kd.V_mono HO_0.out (fun k_ hk => (⟨hk, hk.2⟩ : _ ∧ k_ ≠ ab))) (fun _ hk => hk.2) (.int .u32 ((rd_T24 t352 x47_3).f0))) (fun _ hk => hk.2) (.int .i64 ((rd_T24 t352 x47_3).f1))) (fun _ h_ => h_.1))) hb); replace HO_1 := Aside0.mk (Kd.V_below (by (with_reducible repeat (first | apply Kd.V_alloc | apply Kd.V_drewN | apply Kd.V_drew)); exact (Kd.V_mono (Kd.V_far (p := ⟨ab, 1, none⟩) (Kd.V_far (p := ⟨ab, 0, none⟩) (Kd.V_mono HO_1.out (fun k_ hk => (⟨hk, hk.2⟩ : _ ∧ k_ ≠ ab))) (fun _ hk => hk.2) (.int .u32 ((rd_T24 t352 x47_3).f0))) (fun _ hk => hk.2) (.int .i64 ((rd_T24 t352 x47_3).f1))) (fun _ h_ => h_.1))) hb); replace HO_10 := Aside0.mk (Kd.R_below (by (with_reducible repeat (first | apply Kd.R_alloc | apply Kd.R_drewN | apply Kd.R_drew)); exact (Kd.R_mono (Kd.R_far (p := ⟨ab, 1, none⟩) (Kd.R_far (p := ⟨ab, 0, none⟩) (Kd.R_types HO_10.out ag.out (by decide)) (fun _ hk => hk.2) (.int .u32 ((rd_T24 t352 x47_3).f0))) (fun _ hk => hk.2) (.int .i64 ((rd_T24 t352 x47_3).f1))) (fun _ h_ => h_.1))) hb); replace HO_45 := Aside0.mk (Kd.R_below (by (with_reducible repeat (first | apply Kd.R_alloc | apply Kd.R_drewN | apply Kd.R_drew)); exact (Kd.R_mono (Kd.R_far (p := ⟨ab, 1, none⟩) (Kd.R_far (p := ⟨ab, 0, none⟩) (Kd.R_mono HO_45.out (fun k_ hk => (⟨hk, hk.2⟩ : _ ∧ k_ ≠ ab))) (fun _ hk => hk.2) (.int .u32 ((rd_T24 t352 x47_3).f0))) (fun _ hk => hk.2) (.int .i64 ((rd_T24 t352 x47_3).f1))) (fun _ h_ => h_.1))) hb); replace ac := Aside0.mk (blk_below (g := aa) (o := .cells #[.int .u32 x340000_1, .int .i64 x340001_1] 24 (0, 0)) (by (with_reducible repeat (first | refine blk_drewN ?_ _ | refine blk_drew ?_ | refine blk_alloc ?_ _)); refine blk_far ?_ NB339_356.out _; (with_reducible repeat (first | refine blk_drewN ?_ _ | refine blk_drew ?_ | refine blk_alloc ?_ _)); refine blk_far ?_ NB339_356.out _; (with_reducible repeat (first | refine blk_drewN ?_ _ | refine blk_drew ?_ | refine blk_alloc ?_ _)); exact ac.out) hb); replace ae := Aside0.mk (blk_below (g := ad) (o := .cells #[.int .u32 x352000_3, .int .i64 x352001_3] 24 (0, 0)) (by (with_reducible repeat (first | refine blk_drewN ?_ _ | refine blk_drew ?_ | refine blk_alloc ?_ _)); refine blk_far ?_ NB351_356.out _; (with_reducible repeat (first | refine blk_drewN ?_ _ | refine blk_drew ?_ | refine blk_alloc ?_ _)); refine blk_far ?_ NB351_356.out _; (with_reducible repeat (first | refine blk_drewN ?_ _ | refine blk_drew ?_ | refine blk_alloc ?_ _)); exact ae.out) hb); replace ag := Aside0.mk (blk_below (g := ab) (o := .cells #[.int .u32 ((rd_T24 t352 x47_3).f0), .int .i64 ((rd_T24 t352 x47_3).f1)] 24 (0, 0)) (by (with_reducible repeat (first | refine blk_drewN ?_ _ | refine blk_drew ?_ | refine blk_alloc ?_ _)); refine blk_put (cs := #[.int .u32 ((rd_T24 t352 x47_3).f0), .int .i64 0]) ?_ 1 _ (by first | rfl | (simp; done) | (simp; omega)); (with_reducible repeat (first | refine blk_drewN ?_ _ | refine blk_drew ?_ | refine blk_alloc ?_ _)); refine blk_put (cs := #[.int .u32 0, .int .i64 0]) ?_ 0 _ (by first | rfl | (simp; done) | (simp; omega)); (with_reducible repeat (first | refine blk_drewN ?_ _ | refine blk_drew ?_ | refine blk_alloc ?_ _)); exact ag.out) hb); replace HB := Aside0.mk (below_step (by repeat (first | (with_reducible first | exact HB.out | apply below_alloc | apply pw_below_drewN | apply below_drew1 | refine below_set ?_ af.out | refine below_set ?_ aj.out | refine below_set ?_ GE356.out) | exact HB.out)) hb); (try clear hb); (try clear hb2); (try clear hk); (try clear hi); have hcz39_0 : w38.cell? ⟨ab, 0, none⟩ = some (.int .u32 ((rd_T24 t352 x47_3).f0)) := (blk_cell ag.out 0).trans rfl; have hcz39_1 : w38.cell? ⟨ab, 1, none⟩ = some (.int .i64 ((rd_T24 t352 x47_3).f1)) := (blk_cell ag.out 1).trans rfl; have hfz39_0 := blk_frozen ag.out 0; have hfz39_1 := blk_frozen ag.out 1) | ((with_reducible refine gate_callee (f := 13) rfl ?_); refine goesL_ (some 60) rfl rfl Try.func13 (by kernel_rfl) rfl #[.slice A1 l1.length c1, .agg #[.int .u32 ((rd_T24 t352 x47_3).f0), .int .i64 ((rd_T24 t352 x47_3).f1)]] rfl (by (try simp only [List.map_toArray, List.map_cons, List.map_nil]); first | done | rfl) ?_; (with_reducible refine (plist_Lets.calls k3 _ _ l1 ((rd_T24 t352 x47_3).f0) ((rd_T24 t352 x47_3).f1) t359 t360 _ ?side1 ?side2 A32.out).mono ?_); (case side1 => repeat (first | exact (Kd.V_reads' HO_1.out).2.2 | (with_reducible refine Kd.C_alloc ?_ _) | (with_reducible refine Kd.C_drewN ?_ _) | (with_reducible refine Kd.C_drew ?_))); (case side2 => exact (Kd.V_reads' HO_1.out).2.1); rintro e w40 ⟨rfl, hb⟩; refine ⟨_, rfl, ?_⟩; replace HO_0 := Aside0.mk (Kd.V_below (by (with_reducible repeat (first | apply Kd.V_alloc | apply Kd.V_drewN | apply Kd.V_drew)); exact HO_0.out) hb); replace HO_1 := Aside0.mk (Kd.V_below (by (with_reducible repeat (first | apply Kd.V_alloc | apply Kd.V_drewN | apply Kd.V_drew)); exact HO_1.out) hb); replace HO_10 := Aside0.mk (Kd.R_below (by (with_reducible repeat (first | apply Kd.R_alloc | apply Kd.R_drewN | apply Kd.R_drew)); exact HO_10.out) hb); replace HO_45 := Aside0.mk (Kd.R_below (by (with_reducible repeat (first | apply Kd.R_alloc | apply Kd.R_drewN | apply Kd.R_drew)); exact HO_45.out) hb); replace ac := Aside0.mk (blk_below (g := aa) (by (with_reducible repeat (first | refine blk_drewN ?_ _ | refine blk_drew ?_ | refine blk_alloc ?_ _)); exact ac.out) hb); replace ae := Aside0.mk (blk_below (g := ad) (by (with_reducible repeat (first | refine blk_drewN ?_ _ | refine blk_drew ?_ | refine blk_alloc ?_ _)); exact ae.out) hb); replace ag := Aside0.mk (blk_below (g := ab) (by (with_reducible repeat (first | refine blk_drewN ?_ _ | refine blk_drew ?_ | refine blk_alloc ?_ _)); exact ag.out) hb); replace HB := Aside0.mk (below_step (by repeat (first | (with_reducible first | exact HB.out | apply below_alloc | apply pw_below_drewN | apply below_drew1 | refine below_set ?_ af.out | refine below_set ?_ aj.out | refine below_set ?_ GE356.out) | exact HB.out)) hb); (try clear hb); (try clear hb2); (try clear hk); (try clear hi); have hcz41_0 : w40.cell? ⟨ab, 0, none⟩ = some (.int .u32 ((rd_T24 t352 x47_3).f0)) := (blk_cell ag.out 0).trans rfl; have hcz41_1 : w40.cell? ⟨ab, 1, none⟩ = some (.int .i64 ((rd_T24 t352 x47_3).f1)) := (blk_cell ag.out 1).trans rfl; have hfz41_0 := blk_frozen ag.out 0; have hfz41_1 := blk_frozen ag.out 1; have hnb42 := NB351_339.out; have hnc42 := NB339_351.out; have hcz43_0 : w40.cell? ⟨ad, 0, none⟩ = some (.int .u32 x352000_3) := (blk_cell ae.out 0).trans rfl; have hcz43_1 : w40.cell? ⟨ad, 1, none⟩ = some (.int .i64 x352001_3) := (blk_cell ae.out 1).trans rfl; have hfz43_0 := blk_frozen ae.out 0; have hfz43_1 := blk_frozen ae.out 1; have hcz44_0 : w40.cell? ⟨aa, 0, none⟩ = some (.int .u32 x340000_1) := (blk_cell ac.out 0).trans rfl; have hcz44_1 : w40.cell? ⟨aa, 1, none⟩ = some (.int .i64 x340001_1) := (blk_cell ac.out 1).trans rfl; have hfz44_0 := blk_frozen ac.out 0; have hfz44_1 := blk_frozen ac.out 1))
             refine bodyPost_ret (results_ctt rfl _ _ aa 24 #[.int .u32 ((rd_T24 t352 x47_3).f0), .int .i64 ((rd_T24 t352 x47_3).f1)] (0, 0) _ rfl (by (with_reducible repeat (first | refine blk_drewN ?_ _ | refine blk_drew ?_ | refine blk_alloc ?_ _)); refine blk_put (cs := #[.int .u32 ((rd_T24 t352 x47_3).f0), .int .i64 x340001_1]) ?_ 1 _ (by first | rfl | (simp; done) | (simp; omega)); (with_reducible repeat (first | refine blk_drewN ?_ _ | refine blk_drew ?_ | refine blk_alloc ?_ _)); refine blk_put (cs := #[.int .u32 x340000_1, .int .i64 x340001_1]) ?_ 0 _ (by first | rfl | (simp; done) | (simp; omega)); (with_reducible repeat (first | refine blk_drewN ?_ _ | refine blk_drew ?_ | refine blk_alloc ?_ _)); refine blk_far ?_ NB339_351.out _; (with_reducible repeat (first | refine blk_drewN ?_ _ | refine blk_drew ?_ | refine blk_alloc ?_ _)); refine blk_far ?_ NB339_351.out _; (with_reducible repeat (first | refine blk_drewN ?_ _ | refine blk_drew ?_ | refine blk_alloc ?_ _)); exact ac.out) Try.underlying24 rfl (by kernel_rfl)) rfl ?_
             exact ⟨by first | rfl | (simp [errW_none, errW_some] <;> rfl) | (simp [*, errW_none, errW_some] <;> rfl), by repeat (first | (with_reducible first | exact HB.out | apply below_alloc | apply pw_below_drewN | apply below_drew1 | refine below_set ?_ af.out | refine below_set ?_ aj.out | refine below_set ?_ GE356.out) | exact HB.out)⟩
            ·rw [if_neg al] at H
             have c33b0 : (t357 != t359) = false := by simpa using al
             (try (have c33b1 : decide (t357 = t359) = true := by simpa using al))
             (try (have c33b2 : (t357 == t359) = true := by simpa using al))
             clear al
             have H' := Aside0.mk H
             clear H
             have p355 : 0 ≤ (x47_3 : Int) := of_decide_eq_true (by first | (with_reducible assumption) | assumption)
             have q355 : x47_3 < (t352.length : Int) := of_decide_eq_true (by first | (with_reducible assumption) | assumption)
             obtain ⟨ad355, e355, hx355_0, hx355_1⟩ := at_T24 (Kd.R_reads' HO_45.out).2.2 x47_3 p355 q355
             (try (injection e355 with e355; replace e355 := e355.symm; subst e355; have e355 : True := trivial))
             cases e355
             replace p355 := eq_true p355
             replace q355 := eq_true q355
             go_wps (first | ((with_reducible refine gate_dst (N := 15) rfl ?_); refine box_event ?hg (N := 15) ?hd (cs := #[.int .u32 0, .int .i64 0]) (t := 24) ?hr ?_; (case hd => rfl); (case hg => rfl); (case hr => first | (go_simp; done) | (go_simp; rfl)); intro ab hg w45 hbox hb; have n0_ := Aside0.mk (Kd.V_below (Kd.V_elderB (by (with_reducible repeat (first | apply Kd.V_alloc | apply Kd.V_drewN | apply Kd.V_drew)); exact HO_0.out) ab (Nat.le_of_eq hg.symm)) hb); have n1_ := Aside0.mk (Kd.V_below (Kd.V_elderB (by (with_reducible repeat (first | apply Kd.V_alloc | apply Kd.V_drewN | apply Kd.V_drew)); exact HO_1.out) ab (Nat.le_of_eq hg.symm)) hb); have n2_ := Aside0.mk (Kd.R_below (by (with_reducible repeat (first | apply Kd.R_alloc | apply Kd.R_drewN | apply Kd.R_drew)); exact HO_10.out) hb); have n3_ := Aside0.mk (Kd.R_below (Kd.R_elderB (by (with_reducible repeat (first | apply Kd.R_alloc | apply Kd.R_drewN | apply Kd.R_drew)); exact HO_45.out) ab (Nat.le_of_eq hg.symm)) hb); have n4_ := Aside0.mk (blk_below (g := aa) (by (with_reducible repeat (first | refine blk_drewN ?_ _ | refine blk_drew ?_ | refine blk_alloc ?_ _)); exact ac.out) hb); have n5_ := Aside0.mk (blk_below (g := ad) (by (with_reducible repeat (first | refine blk_drewN ?_ _ | refine blk_drew ?_ | refine blk_alloc ?_ _)); exact ae.out) hb); have n6_ := Aside0.mk (below_step (by repeat (first | (with_reducible first | exact HB.out | apply below_alloc | apply pw_below_drewN | apply below_drew1 | refine below_set ?_ af.out | refine below_set ?_ aj.out) | exact HB.out)) hb); have n7_ := Aside0.mk (hbox); have n8_ := Aside0.mk ((by rw [hg]; exact (below_size (by repeat (first | (with_reducible first | exact HB.out | apply below_alloc | apply pw_below_drewN | apply below_drew1 | refine below_set ?_ af.out | refine below_set ?_ aj.out) | exact HB.out))) : w.heap.size ≤ ab)); have n9_ := Aside0.mk ((by rw [hg]; exact (below_size (by repeat (first | (with_reducible first | exact HB.out | apply below_alloc | apply pw_below_drewN | apply below_drew1 | refine below_set ?_ af.out | refine below_set ?_ aj.out) | exact HB.out))) : w.heap.size ≤ ab)); have n10_ := Aside0.mk ((by rw [hg]; exact Nat.ne_of_lt (blk_lt (g := aa) (o := .cells #[.int .u32 x340000_1, .int .i64 x340001_1] 24 (0, 0)) (by (with_reducible repeat (first | refine blk_drewN ?_ _ | refine blk_drew ?_ | refine blk_alloc ?_ _)); exact ac.out)) : aa ≠ ab)); have n11_ := Aside0.mk ((by rw [hg]; exact Nat.ne_of_gt (blk_lt (g := aa) (o := .cells #[.int .u32 x340000_1, .int .i64 x340001_1] 24 (0, 0)) (by (with_reducible repeat (first | refine blk_drewN ?_ _ | refine blk_drew ?_ | refine blk_alloc ?_ _)); exact ac.out)) : ab ≠ aa)); have n12_ := Aside0.mk ((by rw [hg]; exact Nat.ne_of_lt (blk_lt (g := ad) (o := .cells #[.int .u32 x352000_3, .int .i64 x352001_3] 24 (0, 0)) (by (with_reducible repeat (first | refine blk_drewN ?_ _ | refine blk_drew ?_ | refine blk_alloc ?_ _)); exact ae.out)) : ad ≠ ab)); have n13_ := Aside0.mk ((by rw [hg]; exact Nat.ne_of_gt (blk_lt (g := ad) (o := .cells #[.int .u32 x352000_3, .int .i64 x352001_3] 24 (0, 0)) (by (with_reducible repeat (first | refine blk_drewN ?_ _ | refine blk_drew ?_ | refine blk_alloc ?_ _)); exact ae.out)) : ab ≠ ad)); clear HO_0; clear HO_1; clear HO_10; clear HO_45; clear ac; clear ae; clear HB; have HO_0 := n0_; have HO_1 := n1_; have HO_10 := n2_; have HO_45 := n3_; have ac := n4_; have ae := n5_; have HB := n6_; have ag := n7_; have GW356 := n8_; have GE356 := n9_; have NB339_356 := n10_; have NB356_339 := n11_; have NB351_356 := n12_; have NB356_351 := n13_; clear n0_ n1_ n2_ n3_ n4_ n5_ n6_ n7_ n8_ n9_ n10_ n11_ n12_ n13_; clear hb hbox hg; have hnb46 := NB356_339.out; have hnc46 := NB339_356.out; have hnb47 := NB356_351.out; have hnc47 := NB351_356.out; have hcz48_0 : w45.cell? ⟨ab, 0, none⟩ = some (.int .u32 0) := (blk_cell ag.out 0).trans rfl; have hcz48_1 : w45.cell? ⟨ab, 1, none⟩ = some (.int .i64 0) := (blk_cell ag.out 1).trans rfl; have hfz48_0 := blk_frozen ag.out 0; have hfz48_1 := blk_frozen ag.out 1) | ((with_reducible refine gate_callee (f := 13) rfl ?_); refine goesL_ (some 54) rfl rfl Try.func13 (by kernel_rfl) rfl #[.slice A0 l0.length c0, .agg #[.int .u32 ((rd_T24 t352 x47_3).f0), .int .i64 ((rd_T24 t352 x47_3).f1)]] rfl (by (try simp only [List.map_toArray, List.map_cons, List.map_nil]); first | done | rfl) ?_; (with_reducible refine (plist_Lets.calls k3 _ _ l0 ((rd_T24 t352 x47_3).f0) ((rd_T24 t352 x47_3).f1) t357 t358 _ ?side1 ?side2 A31.out).mono ?_); (case side1 => refine (Kd.V_reads' (e := 26) (base := w.heap.size) (ok := fun k_ => ((((P0_ k_ ∨ P1_ k_) ∨ w.heap.size ≤ k_) ∧ (some k_ ≠ (.slice Ao25 t348.length co25 : Value).ownBlock ∧ (some k_ ≠ (.slice (some ad355) t352.length co27 : Value).ownBlock ∧ (k_ ≠ aa ∧ k_ ≠ ad)))) ∧ k_ ≠ ab)) (n := l0.length) (c := c0) ?_).2.2; exact (by (with_reducible repeat (first | apply Kd.V_alloc | apply Kd.V_drewN | apply Kd.V_drew)); exact (Kd.V_mono (Kd.V_far (p := ⟨ab, 1, none⟩) (Kd.V_far (p := ⟨ab, 0, none⟩) (Kd.V_mono HO_0.out (fun k_ hk => (⟨hk, hk.2⟩ : _ ∧ k_ ≠ ab))) (fun _ hk => hk.2) (.int .u32 ((rd_T24 t352 x47_3).f0))) (fun _ hk => hk.2) (.int .i64 ((rd_T24 t352 x47_3).f1))) (fun _ h_ => h_.1)))); (case side2 => exact (Kd.V_reads' HO_0.out).2.1); rintro e w49 ⟨rfl, hb⟩; refine ⟨_, rfl, ?_⟩; replace HO_0 := Aside0.mk (Kd.V_below (by (with_reducible repeat (first | apply Kd.V_alloc | apply Kd.V_drewN | apply Kd.V_drew)); exact (Kd.V_mono (Kd.V_far (p := ⟨ab, 1, none⟩) (Kd.V_far (p := ⟨ab, 0, none⟩) (Kd.V_mono HO_0.out (fun k_ hk => (⟨hk, hk.2⟩ : _ ∧ k_ ≠ ab))) (fun _ hk => hk.2) (.int .u32 ((rd_T24 t352 x47_3).f0))) (fun _ hk => hk.2) (.int .i64 ((rd_T24 t352 x47_3).f1))) (fun _ h_ => h_.1))) hb); replace HO_1 := Aside0.mk (Kd.V_below (by (with_reducible repeat (first | apply Kd.V_alloc | apply Kd.V_drewN | apply Kd.V_drew)); exact (Kd.V_mono (Kd.V_far (p := ⟨ab, 1, none⟩) (Kd.V_far (p := ⟨ab, 0, none⟩) (Kd.V_mono HO_1.out (fun k_ hk => (⟨hk, hk.2⟩ : _ ∧ k_ ≠ ab))) (fun _ hk => hk.2) (.int .u32 ((rd_T24 t352 x47_3).f0))) (fun _ hk => hk.2) (.int .i64 ((rd_T24 t352 x47_3).f1))) (fun _ h_ => h_.1))) hb); replace HO_10 := Aside0.mk (Kd.R_below (by (with_reducible repeat (first | apply Kd.R_alloc | apply Kd.R_drewN | apply Kd.R_drew)); exact (Kd.R_mono (Kd.R_far (p := ⟨ab, 1, none⟩) (Kd.R_far (p := ⟨ab, 0, none⟩) (Kd.R_types HO_10.out ag.out (by decide)) (fun _ hk => hk.2) (.int .u32 ((rd_T24 t352 x47_3).f0))) (fun _ hk => hk.2) (.int .i64 ((rd_T24 t352 x47_3).f1))) (fun _ h_ => h_.1))) hb); replace HO_45 := Aside0.mk (Kd.R_below (by (with_reducible repeat (first | apply Kd.R_alloc | apply Kd.R_drewN | apply Kd.R_drew)); exact (Kd.R_mono (Kd.R_far (p := ⟨ab, 1, none⟩) (Kd.R_far (p := ⟨ab, 0, none⟩) (Kd.R_mono HO_45.out (fun k_ hk => (⟨hk, hk.2⟩ : _ ∧ k_ ≠ ab))) (fun _ hk => hk.2) (.int .u32 ((rd_T24 t352 x47_3).f0))) (fun _ hk => hk.2) (.int .i64 ((rd_T24 t352 x47_3).f1))) (fun _ h_ => h_.1))) hb); replace ac := Aside0.mk (blk_below (g := aa) (o := .cells #[.int .u32 x340000_1, .int .i64 x340001_1] 24 (0, 0)) (by (with_reducible repeat (first | refine blk_drewN ?_ _ | refine blk_drew ?_ | refine blk_alloc ?_ _)); refine blk_far ?_ NB339_356.out _; (with_reducible repeat (first | refine blk_drewN ?_ _ | refine blk_drew ?_ | refine blk_alloc ?_ _)); refine blk_far ?_ NB339_356.out _; (with_reducible repeat (first | refine blk_drewN ?_ _ | refine blk_drew ?_ | refine blk_alloc ?_ _)); exact ac.out) hb); replace ae := Aside0.mk (blk_below (g := ad) (o := .cells #[.int .u32 x352000_3, .int .i64 x352001_3] 24 (0, 0)) (by (with_reducible repeat (first | refine blk_drewN ?_ _ | refine blk_drew ?_ | refine blk_alloc ?_ _)); refine blk_far ?_ NB351_356.out _; (with_reducible repeat (first | refine blk_drewN ?_ _ | refine blk_drew ?_ | refine blk_alloc ?_ _)); refine blk_far ?_ NB351_356.out _; (with_reducible repeat (first | refine blk_drewN ?_ _ | refine blk_drew ?_ | refine blk_alloc ?_ _)); exact ae.out) hb); replace ag := Aside0.mk (blk_below (g := ab) (o := .cells #[.int .u32 ((rd_T24 t352 x47_3).f0), .int .i64 ((rd_T24 t352 x47_3).f1)] 24 (0, 0)) (by (with_reducible repeat (first | refine blk_drewN ?_ _ | refine blk_drew ?_ | refine blk_alloc ?_ _)); refine blk_put (cs := #[.int .u32 ((rd_T24 t352 x47_3).f0), .int .i64 0]) ?_ 1 _ (by first | rfl | (simp; done) | (simp; omega)); (with_reducible repeat (first | refine blk_drewN ?_ _ | refine blk_drew ?_ | refine blk_alloc ?_ _)); refine blk_put (cs := #[.int .u32 0, .int .i64 0]) ?_ 0 _ (by first | rfl | (simp; done) | (simp; omega)); (with_reducible repeat (first | refine blk_drewN ?_ _ | refine blk_drew ?_ | refine blk_alloc ?_ _)); exact ag.out) hb); replace HB := Aside0.mk (below_step (by repeat (first | (with_reducible first | exact HB.out | apply below_alloc | apply pw_below_drewN | apply below_drew1 | refine below_set ?_ af.out | refine below_set ?_ aj.out | refine below_set ?_ GE356.out) | exact HB.out)) hb); (try clear hb); (try clear hb2); (try clear hk); (try clear hi); have hcz50_0 : w49.cell? ⟨ab, 0, none⟩ = some (.int .u32 ((rd_T24 t352 x47_3).f0)) := (blk_cell ag.out 0).trans rfl; have hcz50_1 : w49.cell? ⟨ab, 1, none⟩ = some (.int .i64 ((rd_T24 t352 x47_3).f1)) := (blk_cell ag.out 1).trans rfl; have hfz50_0 := blk_frozen ag.out 0; have hfz50_1 := blk_frozen ag.out 1) | ((with_reducible refine gate_callee (f := 13) rfl ?_); refine goesL_ (some 60) rfl rfl Try.func13 (by kernel_rfl) rfl #[.slice A1 l1.length c1, .agg #[.int .u32 ((rd_T24 t352 x47_3).f0), .int .i64 ((rd_T24 t352 x47_3).f1)]] rfl (by (try simp only [List.map_toArray, List.map_cons, List.map_nil]); first | done | rfl) ?_; (with_reducible refine (plist_Lets.calls k3 _ _ l1 ((rd_T24 t352 x47_3).f0) ((rd_T24 t352 x47_3).f1) t359 t360 _ ?side1 ?side2 A32.out).mono ?_); (case side1 => repeat (first | exact (Kd.V_reads' HO_1.out).2.2 | (with_reducible refine Kd.C_alloc ?_ _) | (with_reducible refine Kd.C_drewN ?_ _) | (with_reducible refine Kd.C_drew ?_))); (case side2 => exact (Kd.V_reads' HO_1.out).2.1); rintro e w51 ⟨rfl, hb⟩; refine ⟨_, rfl, ?_⟩; replace HO_0 := Aside0.mk (Kd.V_below (by (with_reducible repeat (first | apply Kd.V_alloc | apply Kd.V_drewN | apply Kd.V_drew)); exact HO_0.out) hb); replace HO_1 := Aside0.mk (Kd.V_below (by (with_reducible repeat (first | apply Kd.V_alloc | apply Kd.V_drewN | apply Kd.V_drew)); exact HO_1.out) hb); replace HO_10 := Aside0.mk (Kd.R_below (by (with_reducible repeat (first | apply Kd.R_alloc | apply Kd.R_drewN | apply Kd.R_drew)); exact HO_10.out) hb); replace HO_45 := Aside0.mk (Kd.R_below (by (with_reducible repeat (first | apply Kd.R_alloc | apply Kd.R_drewN | apply Kd.R_drew)); exact HO_45.out) hb); replace ac := Aside0.mk (blk_below (g := aa) (by (with_reducible repeat (first | refine blk_drewN ?_ _ | refine blk_drew ?_ | refine blk_alloc ?_ _)); exact ac.out) hb); replace ae := Aside0.mk (blk_below (g := ad) (by (with_reducible repeat (first | refine blk_drewN ?_ _ | refine blk_drew ?_ | refine blk_alloc ?_ _)); exact ae.out) hb); replace ag := Aside0.mk (blk_below (g := ab) (by (with_reducible repeat (first | refine blk_drewN ?_ _ | refine blk_drew ?_ | refine blk_alloc ?_ _)); exact ag.out) hb); replace HB := Aside0.mk (below_step (by repeat (first | (with_reducible first | exact HB.out | apply below_alloc | apply pw_below_drewN | apply below_drew1 | refine below_set ?_ af.out | refine below_set ?_ aj.out | refine below_set ?_ GE356.out) | exact HB.out)) hb); (try clear hb); (try clear hb2); (try clear hk); (try clear hi)))
             go_roundg k3
             case measure => have := HK1.out; have := HK2.out; have := HK3.out; omega
             case rel => exact ⟨(x12_3), (wrap64 (x47_3 + 1)), (x352000_3), (x352001_3), (by first | rfl | (simp; done) | (simp [*]; done)), (by first | rfl | (simp; done) | (simp [*]; done)), H', ⟨by have := HK1.out; have := HK2.out; have := HK3.out; omega⟩, ⟨by (with_reducible repeat (first | apply Kd.V_alloc | apply Kd.V_drewN | apply Kd.V_drew)); exact Kd.V_mono HO_0.out (fun _ hk => ⟨hk.1.1, ⟨hk.1.2.1, ⟨hk.1.2.2.1, ⟨hk.1.2.2.2.1, hk.1.2.2.2.2⟩⟩⟩⟩)⟩, ⟨by (with_reducible repeat (first | apply Kd.V_alloc | apply Kd.V_drewN | apply Kd.V_drew)); exact Kd.V_mono HO_1.out (fun _ hk => ⟨hk.1.1, ⟨hk.1.2.1, ⟨hk.1.2.2.1, ⟨hk.1.2.2.2.1, hk.1.2.2.2.2⟩⟩⟩⟩)⟩, ⟨by (with_reducible repeat (first | apply Kd.R_alloc | apply Kd.R_drewN | apply Kd.R_drew)); exact HO_10.out⟩, ⟨by (with_reducible repeat (first | apply Kd.R_alloc | apply Kd.R_drewN | apply Kd.R_drew)); exact Kd.R_mono HO_45.out (fun _ hk => ⟨hk.1.1, ⟨hk.1.2.1, hk.1.2.2⟩⟩)⟩, ⟨by (with_reducible repeat (first | refine blk_drewN ?_ _ | refine blk_drew ?_ | refine blk_alloc ?_ _)); exact ac.out⟩, ⟨by (with_reducible repeat (first | refine blk_drewN ?_ _ | refine blk_drew ?_ | refine blk_alloc ?_ _)); exact ae.out⟩, ⟨by repeat (first | (with_reducible first | exact HB.out | apply below_alloc | apply pw_below_drewN | apply below_drew1 | refine below_set ?_ af.out | refine below_set ?_ aj.out | refine below_set ?_ GE356.out) | exact HB.out)⟩⟩
           ·rw [if_neg c30] at H
            exact absurd H (by simp)
          ·rw [if_neg c29] at H
           exact absurd H (by simp)
         ·rw [if_neg c28] at H
          have c28b0 : decide (x47_3 < (t352.length : Int)) = false := decide_eq_false c28
          clear c28
          have H' := Aside0.mk H
          clear H
          go_wps fail
          go_roundg k3
          case measure => have := HK1.out; have := HK2.out; have := HK3.out; omega
          case rel => exact ⟨(x12_3), (wrap64 (x40_2 + 1)), (x352000_3), (x352001_3), (by first | rfl | (simp; done) | (simp [*]; done)), (by first | rfl | (simp; done) | (simp [*]; done)), H', ⟨by have := HK1.out; have := HK2.out; have := HK3.out; omega⟩, ⟨by (with_reducible repeat (first | apply Kd.V_alloc | apply Kd.V_drewN | apply Kd.V_drew)); exact Kd.V_mono HO_0.out (fun _ hk => ⟨hk.1, ⟨hk.2.1, ⟨hk.2.2.2.1, hk.2.2.2.2⟩⟩⟩)⟩, ⟨by (with_reducible repeat (first | apply Kd.V_alloc | apply Kd.V_drewN | apply Kd.V_drew)); exact Kd.V_mono HO_1.out (fun _ hk => ⟨hk.1, ⟨hk.2.1, ⟨hk.2.2.2.1, hk.2.2.2.2⟩⟩⟩)⟩, ⟨by (with_reducible repeat (first | apply Kd.R_alloc | apply Kd.R_drewN | apply Kd.R_drew)); exact HO_10.out⟩, ⟨by (with_reducible repeat (first | refine blk_drewN ?_ _ | refine blk_drew ?_ | refine blk_alloc ?_ _)); exact ac.out⟩, ⟨by (with_reducible repeat (first | refine blk_drewN ?_ _ | refine blk_drew ?_ | refine blk_alloc ?_ _)); exact ae.out⟩, ⟨by repeat (first | (with_reducible first | exact HB.out | apply below_alloc | apply pw_below_drewN | apply below_drew1 | refine below_set ?_ af.out | refine below_set ?_ aj.out) | exact HB.out)⟩⟩
      ·rw [if_neg c23] at H
       have c23b0 : decide (x40_2 < 33) = false := decide_eq_false c23
       clear c23
       simp only [Option.some.injEq, Prod.mk.injEq] at H
       obtain ⟨rfl, rfl, rfl, rfl⟩ := H
       have hnb52 := NB351_339.out
       have hnc52 := NB339_351.out
       have hcz53_0 : wr.cell? ⟨ad, 0, none⟩ = some (.int .u32 x352000_2) := (blk_cell ae.out 0).trans rfl
       have hcz53_1 : wr.cell? ⟨ad, 1, none⟩ = some (.int .i64 x352001_2) := (blk_cell ae.out 1).trans rfl
       have hfz53_0 := blk_frozen ae.out 0
       have hfz53_1 := blk_frozen ae.out 1
       have hcz54_0 : wr.cell? ⟨aa, 0, none⟩ = some (.int .u32 x340000_1) := (blk_cell ac.out 0).trans rfl
       have hcz54_1 : wr.cell? ⟨aa, 1, none⟩ = some (.int .i64 x340001_1) := (blk_cell ac.out 1).trans rfl
       have hfz54_0 := blk_frozen ac.out 0
       have hfz54_1 := blk_frozen ac.out 1
       go_wps fail
       refine bodyPost_ret (results_ctt rfl _ _ aa 24 #[.int .u32 x352000_2, .int .i64 x352001_2] (0, 0) _ rfl (by (with_reducible repeat (first | refine blk_drewN ?_ _ | refine blk_drew ?_ | refine blk_alloc ?_ _)); refine blk_put (cs := #[.int .u32 x352000_2, .int .i64 x340001_1]) ?_ 1 _ (by first | rfl | (simp; done) | (simp; omega)); (with_reducible repeat (first | refine blk_drewN ?_ _ | refine blk_drew ?_ | refine blk_alloc ?_ _)); refine blk_put (cs := #[.int .u32 x340000_1, .int .i64 x340001_1]) ?_ 0 _ (by first | rfl | (simp; done) | (simp; omega)); (with_reducible repeat (first | refine blk_drewN ?_ _ | refine blk_drew ?_ | refine blk_alloc ?_ _)); exact ac.out) Try.underlying24 rfl (by kernel_rfl)) rfl ?_
       exact ⟨by first | rfl | (simp [errW_none, errW_some] <;> rfl) | (simp [*, errW_none, errW_some] <;> rfl), by repeat (first | (with_reducible first | exact HB.out | apply below_alloc | apply pw_below_drewN | apply below_drew1 | refine below_set ?_ af.out | refine below_set ?_ aj.out) | exact HB.out)⟩

end Go.Proofs.Ytndcjncamdhbfaa.P

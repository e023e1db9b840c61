/- Printed by this session's own program (wip/tools/pr.py) out of the translation: functions of the program as plain Lean functions, and that the program's calls come to what these say. -/
import Derived.Test.YtikjfonedddlpaaPx0
import Derived.Test.YtikjfonedddlpaaPx3
import Derived.Test.YtikjfonedddlpaaKdW
import Derived.WalkSpells
import Derived.Test.YtikjfonedddlpaaGrow
import Derived.Test.YtikjfonedddlpaaCmpComm
namespace Go.Proofs.Ytikjfonedddlpaa.P
open Go.RowKit Go.Proofs.YtikjfonedddlpaaW.PrintWords Go.Proofs.YtikjfonedddlpaaW.PrintLast Go.Proofs.YtikjfonedddlpaaW.PrintMore
attribute [local go_sem] max2_int min2_int max_two min_two max_three min_three max_four min_four   -- for this text's walks alone
set_option linter.unusedVariables false
set_option linter.unusedSimpArgs false

-- NOT PRINTED: function 59 (api_Comm_59)

/-! ### api_Comm_41: function 41 -/
-- EXT Derived.Test.YtikjfonedddlpaaKdW Derived.WalkSpells Derived.Test.YtikjfonedddlpaaGrow
def api_Comm_41.sum (l : List (List S23)) : Nat := (l.map List.length).sum
def api_Comm_41.f (l0 : List (List S23)) : Option (List S23) := if l0.length ≤ 1000 ∧ api_Comm_41.sum l0 * 16 ≤ 140737488355328 then some l0.flatten else none
theorem api_Comm_41.sum_take (l : List (List S23)) (k : Nat) (x : List S23) (h : l[k]? = some x) : api_Comm_41.sum (l.take (k + 1)) = api_Comm_41.sum (l.take k) + x.length := by
  unfold api_Comm_41.sum
  rw [List.take_add_one, h]; simp
theorem api_Comm_41.sum_le (l : List (List S23)) (k : Nat) : api_Comm_41.sum (l.take k) ≤ api_Comm_41.sum l := by
  unfold api_Comm_41.sum
  have : (l.map List.length).sum = ((l.take k).map List.length).sum + ((l.drop k).map List.length).sum := by
    rw [← List.sum_append, ← List.map_append, List.take_append_drop]
  omega
theorem api_Comm_41.sum_flat (l : List (List S23)) : l.flatten.length = api_Comm_41.sum l := by unfold api_Comm_41.sum; rw [List.length_flatten]
theorem api_Comm_41.flat_take (l : List (List S23)) (k : Nat) (x : List S23) (h : l[k]? = some x) : (l.take (k + 1)).flatten = (l.take k).flatten ++ x := by
  rw [List.take_add_one, h]; simp
theorem api_Comm_41.info : (Try.prog.info? 23).map (fun i => (i.zero, i.size, i.bytes)) = some (some (.agg #[.int .i64 0, .int .i64 0]), 2, 16) := by kernel_rfl
theorem api_Comm_41.grow (n : Nat) (hn : n * 16 ≤ 140737488355328) (w : World) : Calls Try.prog 59 #[.slice none 0 0, .int .i64 n] w fun e w' => ∃ v : Value, e = .returned v ∧ Kd.R k23 23 w' w.heap.size (fun _ => True) v [] ∧ Below w.heap.size w w' := by
  by_cases h0 : n = 0
  · subst h0
    refine (Go.Proofs.Any8.slices_Grow_room Try.growX none 0 0 0 w (by omega) (by omega) (by omega) (by omega)).mono ?_
    rintro e w' ⟨rfl, rfl⟩
    exact ⟨_, rfl, Kd.R_nil _ _ _ _ _, Below.refl _ _⟩
  · obtain ⟨i0, hi, hz0, hz1, hz2⟩ := info_parts api_Comm_41.info
    refine (Go.Proofs.Any8.slices_Grow_grow Try.growX i0 _ hi hz0 (by rw [hz1]; decide) none 0 0 n [] w (by omega) (by omega) (by rw [hz2]; omega) (by omega) (by simp) (fun _ => rfl) (fun a h => by cases h)).mono ?_
    rintro e w' ⟨rfl, rfl⟩
    have hcap := grownCap_ge w (0 + n) 0 23
    have hmax := grownCap_le_maxLen w (0 + n) 0 23 (by unfold maxLen; omega)
    refine ⟨_, rfl, ?_, below_alloc (below_drew1 (Below.refl _ _)) _⟩
    refine ⟨fun _ _ => trivial, [], ?_, Reps.none _ _⟩
    refine ⟨by simp, .inr ⟨w.heap.size, _, _, rfl, Nat.le_refl _, heap_alloc_new w.drew _, Nat.zero_le _, hmax, ?_, by simp⟩⟩
    simp only [Array.size_append, size_zeroCells, List.size_toArray, List.length_nil, Value.cells]
    show 0 + (0 + n - 0) * 2 + (grownCap w (0 + n) 0 23 - (0 + n)) * 2 = grownCap w (0 + n) 0 23 * 2
    omega
set_option maxHeartbeats 2000000 in
set_option maxRecDepth 100000 in
theorem api_Comm_41.calls (A0 : Option Addr) (c0 : Nat) (l0 : List (List S23)) (r : List S23) (w : World) (hr0 : Kd.C (Kd.slice 23 k23) w A0 l0.length l0) (hc0 : l0.length ≤ c0) (h : api_Comm_41.f l0 = some r) :
    Calls Try.prog 41 #[.slice A0 l0.length c0] w fun e w' => ∃ v0_ : Value, e = .returned v0_ ∧ Kd.R k23 23 w' w.heap.size (fun _ => True) v0_ r ∧ Below w.heap.size w w' := by
  unfold api_Comm_41.f at h
  split at h
  · rename_i hb
    obtain rfl := Option.some.inj h
    have HR := mkHid hr0
    have hn := hb.1
    have hsz := mkHid hb.2
    have hbd : ∀ k, api_Comm_41.sum (l0.take k) ≤ 140737488355328 := fun k => by have := api_Comm_41.sum_le l0 k; have := hsz.out; omega
    have HBD := mkHid hbd
    clear h hr0 hc0 hb hbd
    go_enter Try.func41, Try.ntmps41
    go_wp2_with fail
    go_loopg [3, 11] l0.length (fun kq v3 v11 wr => ∃ k : Int, v3 = .int .i64 (api_Comm_41.sum (l0.take k.toNat) : Nat) ∧ v11 = .int .i64 k ∧ 0 ≤ k ∧ k ≤ l0.length ∧ Hid (k + kq = l0.length) ∧ w = wr)
    case atStart => exact ⟨0, rfl, rfl, by omega, by omega, by unfold Hid; omega, rfl⟩
    case round =>
      obtain ⟨k, rfl, rfl, k0, kn, hk, rfl⟩ := hrel
      have hk1 := hk.out
      by_cases hkn : k < l0.length
      · obtain ⟨x, hx⟩ : ∃ x, l0[k.toNat]? = some x := ⟨_, List.getElem?_eq_getElem (h := by omega)⟩
        obtain ⟨g, o, rfl, hg, hcells⟩ := C_at HR.out (by decide) (by omega)
        obtain ⟨cs, _, hK, hcc⟩ := hcells _ _ hx
        obtain ⟨Ax, cx, rfl, hxc, hxC⟩ := hK
        have d0 : w.cell? ⟨g, o + k.toNat * 1 + 0, none⟩ = some (.slice Ax x.length cx) := hcc 0 _ rfl
        rw [Nat.add_zero, Nat.mul_one] at d0
        have q1 : decide (k < (l0.length : Int)) = true := decide_eq_true hkn
        have hs := api_Comm_41.sum_take l0 k.toNat x hx
        have hs2 := HBD.out (k.toNat + 1)
        have hw1 : IntKind.i64.wrap (k + 1) = k + 1 := IntWalk.i64_in _ (by omega)
        have hw2 : IntKind.i64.wrap ((api_Comm_41.sum (l0.take k.toNat) : Nat) + (x.length : Int)) = ((api_Comm_41.sum (l0.take (k.toNat + 1)) : Nat) : Int) := by rw [IntWalk.i64_in _ (by omega), hs]; omega
        have q2 : decide (((api_Comm_41.sum (l0.take (k.toNat + 1)) : Nat) : Int) < 0) = false := decide_eq_false (by omega)
        have e1 : (k + 1).toNat = k.toNat + 1 := by omega
        have E1 := mkHid e1
        clear hcc hcells hxC hxc hs hs2 hx e1
        go_wp2_with fail
        go_roundg (gk - 1)
        case measure => omega
        case rel => exact ⟨k + 1, by rw [E1.out], rfl, by omega, by omega, by unfold Hid; omega, rfl⟩
      · have q1 : decide (k < (l0.length : Int)) = false := decide_eq_false (by omega)
        have hall : l0.take k.toNat = l0 := List.take_of_length_le (by omega)
        rw [hall]
        clear hall
        go_wp2_with fail
        refine (api_Comm_41.grow (api_Comm_41.sum l0) hsz.out w).mono ?_
        rintro e w1 ⟨v, rfl, hR1, hB1⟩
        have HR1 := mkHid hR1
        have HB1 := mkHid hB1
        clear hR1 hB1
        go_wp2_with fail
        go_loopg [6, 27] l0.length (fun kq v6 v27 wr => ∃ j : Int, v27 = .int .i64 j ∧ 0 ≤ j ∧ j ≤ l0.length ∧ Hid (j + kq = l0.length) ∧ Hid (Kd.R k23 23 wr w.heap.size (fun _ => True) v6 (l0.take j.toNat).flatten) ∧ Hid (Below w.heap.size w wr))
        case atStart => exact ⟨0, rfl, by omega, by omega, by unfold Hid; omega, HR1.out, HB1.out⟩
        case round =>
          clear HR1 HB1 q1
          obtain ⟨j, rfl, j0, jn, hj, hR2, hB2⟩ := hrel
          have hj1 := hj.out
          by_cases hjn : j < l0.length
          · obtain ⟨x, hx⟩ : ∃ x, l0[j.toNat]? = some x := ⟨_, List.getElem?_eq_getElem (h := by omega)⟩
            obtain ⟨g, o, rfl, hg, hcells⟩ := C_at (Kd.C_below HR.out hB2.out) (by decide) (by omega)
            obtain ⟨cs, _, hK, hcc⟩ := hcells _ _ hx
            obtain ⟨Ax, cx, rfl, hxc, hxC⟩ := hK
            have d0 : wr.cell? ⟨g, o + j.toNat * 1 + 0, none⟩ = some (.slice Ax x.length cx) := hcc 0 _ rfl
            rw [Nat.add_zero, Nat.mul_one] at d0
            have q1 : decide (j < (l0.length : Int)) = true := decide_eq_true hjn
            have hs := api_Comm_41.sum_take l0 j.toNat x hx
            have hs2 := api_Comm_41.sum_le l0 (j.toNat + 1)
            have hw1 : IntKind.i64.wrap (j + 1) = j + 1 := IntWalk.i64_in _ (by omega)
            have hl : ((l0.take j.toNat).flatten.length + x.length) * 16 ≤ 140737488355328 := by rw [api_Comm_41.sum_flat]; have := hsz.out; omega
            have HL := mkHid hl
            have HXC := mkHid hxC
            have e1 : (l0.take (j + 1).toNat).flatten = (l0.take j.toNat).flatten ++ x := by rw [show (j + 1).toNat = j.toNat + 1 by omega]; exact api_Comm_41.flat_take l0 j.toNat x hx
            have E1 := mkHid e1
            clear hcc hcells hxC hxc hs hs2 hx hl e1
            go_wp2_with (at_builtin; refine Kd.R_append_rows k23 (w0 := w) (Rr := Kd.K k23 wr) w.heap.size ?a1 (.tmp 31) (.tmp 32) 32 23 (.agg #[.int .i64 0, .int .i64 0]) 16 ?a2 ?a3 ?a4 ?a5 ?a6 ?a7 u6 (l0.take j.toNat).flatten x Ax x.length cx (fun _ => True) (fun _ => False) ?a8 ?a9 ?aO ?aR ?aK ?aE ?aF ?aB ?aS ?aL ?_; (case a1 => rfl); (case a2 => rfl); (case a3 => exact Try.underlying32); (case a4 => exact api_Comm_41.info); (case a5 => rfl); (case a6 => decide); (case a7 => omega); (case a8 => rfl); (case a9 => rfl); (case aO => exact hR2.out); (case aR => exact HXC.out); (case aK => intro y cs hy; exact (fun h w1 b ok => by have e := k23_open h; subst e; exact k23_mkM w1 b ok _) hy wr w.heap.size (fun _ => False)); (case aE => exact fun _ h => h.elim); (case aF => exact fun _ _ => trivial); (case aB => exact hB2.out); (case aS => exact hB2.out.size); (case aL => exact HL.out); intro v1 w3 hR3 hB3 _ _)
            have HR3 := mkHid hR3
            have HB3 := mkHid hB3
            clear hR3 hB3
            go_wp2_with fail
            go_roundg (gk - 1)
            case measure => omega
            case rel => exact ⟨j + 1, rfl, by omega, by omega, by unfold Hid; omega, by rw [E1.out]; exact HR3.out, HB3.out⟩
          · have q1 : decide (j < (l0.length : Int)) = false := decide_eq_false (by omega)
            have hall : l0.take j.toNat = l0 := List.take_of_length_le (by omega)
            rw [hall] at hR2
            go_wp2_with fail
            go_ret
            exact ⟨_, rfl, hR2.out, hB2.out⟩
  · exact absurd h (by simp)

/-! ### comm_Compare: function 23 -/
-- EXT Derived.Test.YtikjfonedddlpaaCmpComm
def cmpI (a b : Int) : Int := if a < b then -1 else if b < a then 1 else 0
def orI (a b : Int) : Int := if a ≠ 0 then a else b
def ordC (x y : S23) : Int := orI (cmpI x.f0 y.f0) (cmpI x.f1 y.f1)
theorem cmpI_is (a b : Int) : cmp_Compare_int.f a b = some (cmpI a b) := by
  unfold cmp_Compare_int.f cmpI
  by_cases h1 : a < b
  · simp [h1, cmp_isNaN_int.f]
  · by_cases h2 : b < a
    · simp [h1, h2, cmp_isNaN_int.f]
    · simp [h1, h2, cmp_isNaN_int.f]
theorem orI_is (a b : Int) : cmp_Or_int.f 4 [a, b] = some (orI a b) := by
  unfold orI
  by_cases h : a = 0
  · by_cases h2 : b = 0 <;> simp [cmp_Or_int.f, cmp_Or_int.l0, rd, h, h2, wrap64]
  · simp [cmp_Or_int.f, cmp_Or_int.l0, rd, h, wrap64]
theorem ordC_is (x y : S23) : comm_order.f 4 x.f0 x.f1 y.f0 y.f1 = some (ordC x y) := by
  unfold comm_order.f ordC
  rw [cmpI_is, Option.bind_some, cmpI_is, Option.bind_some, orI_is, Option.bind_some]
def cmpCL (a b : List S23) : Int := orI (cmpI a.length b.length) (cmpLst ordC a b)
def comm_Compare.f (l0 : List S23) (l1 : List S23) : Option Int := some (cmpCL l0 l1)
set_option maxHeartbeats 2000000 in
set_option maxRecDepth 100000 in
theorem comm_Compare.calls (A0 : Option Addr) (c0 : Nat) (l0 : List S23) (A1 : Option Addr) (c1 : Nat) (l1 : List S23) (r : Int) (w : World) (hr0 : Kd.C k23 w A0 l0.length l0) (hc0 : l0.length ≤ c0) (hr1 : Kd.C k23 w A1 l1.length l1) (hc1 : l1.length ≤ c1) (h : comm_Compare.f l0 l1 = some r) :
    Calls Try.prog 23 #[.slice A0 l0.length c0, .slice A1 l1.length c1] w fun e w' => e = .returned (.int .i64 r) ∧ Below w.heap.size w w' := by
  unfold comm_Compare.f cmpCL at h
  have H := mkHid (Option.some.inj h)
  have HF := mkHid (fun W hq0 hq1 => cmpf_Comm 43 ordC (fun _ _ => by go_simp) (fun x y W => comm_order.calls 4 x.f0 x.f1 y.f0 y.f1 _ W (ordC_is x y)) A0 c0 l0 A1 c1 l1 W hq0 hq1)
  have HR0 := mkHid hr0
  have HR1 := mkHid hr1
  have HQ := mkHid (fun W => cmp_Compare_int.calls (l0.length : Int) (l1.length : Int) _ W (cmpI_is _ _))
  clear h hr0 hr1
  generalize cmpLst ordC l0 l1 = q at *
  generalize cmpI (l0.length : Int) (l1.length : Int) = p at *
  go_enter Try.func23, Try.ntmps23
  go_wp2_with fail
  refine (HQ.out _).mono ?_
  rintro e w1 ⟨rfl, hb1⟩
  have hb1' : Below w.heap.size w w1 := by first | exact hb1 | exact hb1.below
  have HB1 := mkHid hb1'
  clear hb1 hb1'
  go_wp2_with fail
  refine (HF.out _ (Kd.C_below HR0.out HB1.out) (Kd.C_below HR1.out HB1.out)).mono ?_
  rintro e w2 ⟨rfl, hb2⟩
  have HB2 : Hid (Below w.heap.size w w2) := below_step HB1.out hb2
  clear hb2
  go_wp2_with fail
  refine (cmp_Or_int.calls 4 _ 2 [p, q] (orI p q) _ ?_ (by simp) (orI_is p q)).mono ?_
  · exact C_lit .i64 _ [p, q] _ (by simp)
  rintro e w3 ⟨rfl, hb3⟩
  have hb3' : Below w.heap.size w w3 := by first | exact below_step (below_alloc HB2.out _) hb3 | exact below_step (below_alloc HB2.out _) hb3.below
  have HB3 := mkHid hb3'
  clear hb3 hb3'
  go_wp2_with fail
  go_ret
  exact ⟨by rw [← H.out]; rfl, HB3.out⟩

end Go.Proofs.Ytikjfonedddlpaa.P

/- Printed by this session's own program (wip/tools/pr.py) out of the translation: functions of the program as plain Lean functions, and that the program's calls come to what these say. -/
import Derived.Test.YtndcjncamdhbfaaPx0
import Derived.Test.YtndcjncamdhbfaaPx9
import Derived.Test.YtndcjncamdhbfaaPx15
import Derived.Test.YtndcjncamdhbfaaKdW
import Derived.WalkSpells
namespace Go.Proofs.Ytndcjncamdhbfaa.P
open Go.RowKit Go.Proofs.YtndcjncamdhbfaaW.PrintWords Go.Proofs.YtndcjncamdhbfaaW.PrintLast Go.Proofs.YtndcjncamdhbfaaW.PrintMore
attribute [local go_sem] max2_int min2_int max_two min_two max_three min_three max_four min_four   -- for this text's walks alone
set_option linter.unusedVariables false
set_option linter.unusedSimpArgs false

/-! ### api_Range_39: function 39 -/
-- EXT Derived.Test.YtndcjncamdhbfaaKdW Derived.WalkSpells
def api_Range_39.f (l0 : List S26) : Option (List S26) := if l0.length * 40 ≤ 140737488355328 then some l0 else none
theorem api_Range_39.info : (Try.prog.info? 26).map (fun i => (i.zero, i.size, i.bytes)) = some (some (.agg #[.int .u32 0, .int .i64 0, .int .i64 0, .int .i64 0, .bool false]), 5, 40) := by kernel_rfl
set_option maxHeartbeats 1000000 in
set_option maxRecDepth 100000 in
theorem api_Range_39.calls (A0 : Option Addr) (c0 : Nat) (l0 : List S26) (r : List S26) (w : World) (hr0 : Kd.C k26 w A0 l0.length l0) (hc0 : l0.length ≤ c0) (h : api_Range_39.f l0 = some r) :
    Calls Try.prog 39 #[.slice A0 l0.length c0] w fun e w' => ∃ v0_ : Value, e = .returned v0_ ∧ Kd.R k26 26 w' w.heap.size (fun _ => True) v0_ r ∧ Below w.heap.size w w' := by
  unfold api_Range_39.f at h
  split at h
  · rename_i hb
    obtain rfl := Option.some.inj h
    have HR := mkHid hr0
    obtain ⟨i0, hi, hz0, hz1, hz2⟩ := info_parts api_Range_39.info
    cases A0 with
    | none =>
      have h0 : l0.length = 0 := by
        rcases Nat.eq_zero_or_pos l0.length with h0 | h0
        · exact h0
        · obtain ⟨ad, e, _⟩ := hr0.2.2 h0
          cases e
      have e0 : l0 = [] := List.length_eq_zero_iff.1 h0
      subst e0
      have hq := fun W => Lib.run_eql_slice_nil (P := Try.prog) W 31 26 none 0 c0 0 0 Try.underlying31
      clear h hr0 hi hz0 hz1 hz2 h0
      go_enter Try.func39, Try.ntmps39
      go_wp2_with fail
      go_ret
      exact ⟨_, rfl, Kd.R_nil _ _ _ _ _, Below.refl _ _⟩
    | some ad =>
      obtain ⟨inner, hrep, hcell⟩ := ReadsRow.inner_ hr0
      have hlen := mkHid hrep.1
      have hone := Reps.one_ hrep (by decide)
      have HRep := mkHid hrep
      have HCell := mkHid hcell
      have hm : l0.length ≤ 9223372036854775807 := Kd.C_max hr0
      have hnew : ∀ W : World, (W.alloc (.cells #[] 26)).ownsRow W.heap.size 26 5 (.slice (some ⟨W.heap.size, 0, none⟩) 0 0) 0 [] := fun W => ⟨by simp, .inr ⟨W.heap.size, 0, #[], rfl, Nat.le_refl _, heap_alloc_new W _, Nat.le_refl _, by unfold maxLen; omega, by simp, by simp⟩⟩
      have HNew := mkHid hnew
      have HOne := mkHid hone
      have hq := fun W => Lib.run_eql_slice_nil (P := Try.prog) W 31 26 (some ad) l0.length c0 0 0 Try.underlying31
      clear h hr0 hrep hcell hone hnew
      go_enter Try.func39, Try.ntmps39
      go_wp2_with (at_builtin; refine wpList_append_own _ rfl _ _ 31 rfl w.heap.size 26 i0 _ 5 40 Try.underlying31 hi hz0 hz1 hz2 rfl (by decide) _ _ _ rfl (HNew.out w) ad l0.length c0 inner rfl hlen.out (fun j u hu => by rw [World.cell?_alloc_lt _ _ _ (World.block_lt_of_cell? _ _ (HCell.out j u hu))]; exact HCell.out j u hu) HOne.out (by unfold maxLen; omega) (by omega) (by simp) ?_; intro v' w1 hown1 hgrow _)
      rw [Nat.zero_add, List.nil_append] at hown1
      have HO := mkHid hown1
      have HG := mkHid hgrow
      clear hown1 hgrow
      go_wp2_with fail
      go_ret
      refine ⟨_, rfl, flat_own (fun h w1 b ok => by have e := k26_open h; subst e; exact k26_mkM w1 b ok _) HO.out rfl HRep.out, ?_⟩
      exact (((Below.refl _ _).alloc (Nat.le_refl _) _).grown HG.out (by simp) (fun k hk => by cases hk; exact Nat.le_refl _))
  · exact absurd h (by simp)

/-! ### plist_Bare: function 24 -/
def plist_Bare.l0 : Nat → List (S26) → List (S26) → Int → Int → Option ((List (S26)) × Int)
  | 0, _, _, _, _ => none
  | k + 1, x5, x14, x15, x16 => if x16 < x15 then (if 0 ≤ x16 then (if x16 < (x14.length : Int) then ((api_Range_39.f x5).bind fun t303 => ((some (([(⟨(⟨(rd_T26 x14 x16).f0.f0, (rd_T26 x14 x16).f0.f1⟩ : S24), (rd_T26 x14 x16).f1, (rd_T26 x14 x16).f2, (rd_T26 x14 x16).f3⟩ : S26)] : List (S26)) : List (S26))).bind fun y306 => (if t303.length + y306.length < 3518437208883 then ((some (t303 ++ y306 : List (S26))).bind fun y309 => ((plist_idle.f k y309).bind fun t312 => (if t312 = true then (plist_Bare.l0 k x5 x14 x15 (wrap64 (x16 + 1))) else (plist_Bare.l0 k y309 x14 x15 (wrap64 (x16 + 1)))))) else (none)))) else (none)) else (none)) else (some (x5, 0))
def plist_Bare.f (k : Nat) (l0 : List (S26)) : Option ((List (S26)) × Int) := (plist_May.f k l0).bind fun t300 => (if t300 = 0 then (plist_Bare.l0 k ([] : List (S26)) l0 (l0.length : Int) 0) else (some (([] : List (S26)), t300)))
theorem plist_Bare.mono_l : ∀ k, (∀ y0 y1 y2 y3, LeO (plist_Bare.l0 k y0 y1 y2 y3) (plist_Bare.l0 (k + 1) y0 y1 y2 y3))
  | 0 => fun _ _ _ _ r h => by simp [plist_Bare.l0] at h
  | k + 1 => by
    have ih0 := plist_Bare.mono_l k
    · intro y0 y1 y2 y3
      unfold plist_Bare.l0
      repeat' first
      | (with_reducible exact ih0 _ _ _ _)
      | (with_reducible exact plist_May.mono _ _)
      | (with_reducible exact plist_idle.mono _ _)
      | (with_reducible exact LeO.refl _)
      | (with_reducible exact LeO.none _)
      | (with_reducible refine LeO.ite ?_ ?_)
      | (with_reducible refine LeO.bind ?_ (fun _ => ?_))
      | exact ih0 _ _ _ _
      | exact plist_May.mono _ _
      | exact plist_idle.mono _ _
      | exact LeO.none _
      | refine LeO.ite ?_ ?_
      | refine LeO.bind ?_ (fun _ => ?_)
theorem plist_Bare.mono : ∀ a0 k, LeO (plist_Bare.f k a0) (plist_Bare.f (k + 1) a0) := by
  intro a0 k
  have ih0 := plist_Bare.mono_l k
  unfold plist_Bare.f
  repeat' first
      | (with_reducible exact ih0 _ _ _ _)
      | (with_reducible exact plist_May.mono _ _)
      | (with_reducible exact plist_idle.mono _ _)
      | (with_reducible exact LeO.refl _)
      | (with_reducible exact LeO.none _)
      | (with_reducible refine LeO.ite ?_ ?_)
      | (with_reducible refine LeO.bind ?_ (fun _ => ?_))
      | exact ih0 _ _ _ _
      | exact plist_May.mono _ _
      | exact plist_idle.mono _ _
      | exact LeO.none _
      | refine LeO.ite ?_ ?_
      | refine LeO.bind ?_ (fun _ => ?_)
theorem k24d0.b5e {W : World} {g : Nat} {v0 v1 v2 v3 v4 : Value} {t : TypeId} (h : W.heap[g]? = some (.cells #[v0, v1, v2, v3, v4] t (0, 0))) : W.cell? ⟨g, 0, none⟩ = some v0 ∧ W.cell? ⟨g, 1, none⟩ = some v1 ∧ W.cell? ⟨g, 2, none⟩ = some v2 ∧ W.cell? ⟨g, 3, none⟩ = some v3 ∧ W.cell? ⟨g, 4, none⟩ = some v4 :=
  ⟨(blk_cell h 0).trans rfl, (blk_cell h 1).trans rfl, (blk_cell h 2).trans rfl, (blk_cell h 3).trans rfl, (blk_cell h 4).trans rfl⟩
set_option maxHeartbeats 8000000 in
set_option maxRecDepth 100000 in
theorem plist_Bare.calls (k : Nat) (A0 : Option Addr) (c0 : Nat) (l0 : List (S26)) (r1 : List (S26)) (r2 : Int) (w : World) (hr0 : Kd.C k26 w A0 l0.length l0) (hc0 : l0.length ≤ c0) (h : plist_Bare.f k l0 = some (r1, r2)) :
  Calls Try.prog 24 #[.slice A0 l0.length c0] w fun e w' => ∃ v0_ : Value, e = .returned (.tuple #[v0_, .int .i64 r2]) ∧ Kd.R k26 26 w' w.heap.size (fun _ => True) v0_ r1 ∧ Below w.heap.size w w' := by
 have hu26 := Try.underlying26
 have HR0 := Aside0.mk hr0
 have HC0 := Aside0.mk hc0
 clear hr0 hc0
 have HB := Aside0.mk (Below.refl w.heap.size w)
 have H : ((plist_May.f k l0).bind fun t300 => (if t300 = 0 then (plist_Bare.l0 k ([] : List (S26)) l0 (l0.length : Int) 0) else (some (([] : List (S26)), t300)))) = some (r1, r2) := h
 clear h
 replace H := Option.bind_eq_some_iff.mp H
 obtain ⟨t300, A20, H⟩ := H
 (try dsimp only at H)
 have A2 := Aside0.mk A20
 clear A20
 by_cases c3 : t300 = 0
 ·rw [if_pos c3] at H
  have c3b0 : (t300 == 0) = true := beq_iff_eq.mpr c3
  have c3b1 : (t300 != 0) = false := bne_eq_false_iff_eq.mpr c3
  clear c3
  have H' := Aside0.mk H
  clear H
  go_enter Try.func24, Try.ntmps24
  go_wp2_with (first | ((with_reducible refine gate_callee (f := 15) rfl ?_); refine goesL_ (some 10) rfl rfl Try.func15 (by kernel_rfl) rfl #[.slice A0 l0.length c0] rfl (by (try simp only [List.map_toArray, List.map_cons, List.map_nil]); first | done | rfl) ?_; (with_reducible refine (plist_May.calls k _ _ l0 t300 _ ?side1 ?side2 A2.out).mono ?_); (case side1 => repeat (first | exact HR0.out | (with_reducible refine Kd.C_alloc ?_ _) | (with_reducible refine Kd.C_drewN ?_ _) | (with_reducible refine Kd.C_drew ?_))); (case side2 => exact HC0.out); rintro e w4 ⟨rfl, hb⟩; refine ⟨_, rfl, ?_⟩; replace HB := Aside0.mk (below_step (by repeat (first | (with_reducible first | exact HB.out | apply below_alloc | apply pw_below_drewN | apply below_drew1) | exact HB.out)) hb); (try clear hb); (try clear hb2); (try clear hk); (try clear hi)))
  go_loopg [5, 16] k (fun kq v5 v16 w' => ∃ (x5_1 : List (S26)) (x16_1 : Int), v16 = .int .i64 x16_1 ∧ Aside0 (plist_Bare.l0 kq x5_1 l0 (l0.length : Int) x16_1 = some (r1, r2)) ∧ Aside0 (kq ≤ k) ∧ Aside0 (Kd.R k26 26 w' w.heap.size (fun _ => True) v5 x5_1) ∧ Aside0 (Below w.heap.size w w'))
  case atStart => exact ⟨(([] : List (S26))), (0), (by first | rfl | (simp; done) | (simp [*]; done)), H', ⟨Nat.le_refl _⟩, ⟨by first | exact Kd.R_nil _ _ _ _ _ | exact Kd.N_nil _ _ _ _ _ | exact Kd.V_nil _ _ _ _ _ | exact Kd.Q_nil _ _ _ _ _ | exact Kd.S_nil _ _ _ _ _⟩, ⟨by repeat (first | (with_reducible first | exact HB.out | apply below_alloc | apply pw_below_drewN | apply below_drew1) | exact HB.out)⟩⟩
  case round =>
   clear H'
   try clear c1
   try clear c2
   try clear p2
   try clear c3
   try clear c3b0
   try clear c3b1
   obtain ⟨x5_1, x16_1, rfl, HA, HK1, HO_5, HB⟩ := hrel
   cases gk with
   | zero => exact absurd HA.out (by simp [plist_Bare.l0])
   | succ k1 =>
    have H := HA.out
    clear HA
    simp only [plist_Bare.l0] at H
    by_cases c5 : x16_1 < (l0.length : Int)
    ·rw [if_pos c5] at H
     have c5b0 : decide (x16_1 < (l0.length : Int)) = true := decide_eq_true c5
     clear c5
     by_cases c6 : 0 ≤ x16_1
     ·rw [if_pos c6] at H
      have c6b0 : decide (0 ≤ x16_1) = true := decide_eq_true c6
      clear c6
      by_cases c7 : x16_1 < (l0.length : Int)
      ·rw [if_pos c7] at H
       have c7b0 : decide (x16_1 < (l0.length : Int)) = true := decide_eq_true c7
       clear c7
       replace H := Option.bind_eq_some_iff.mp H
       obtain ⟨t303, A80, H⟩ := H
       (try dsimp only at H)
       have A8 := Aside0.mk A80
       clear A80
       obtain ⟨ag, hy306⟩ : ∃ y_ : List (S26), y_ = (([(⟨(⟨(rd_T26 l0 x16_1).f0.f0, (rd_T26 l0 x16_1).f0.f1⟩ : S24), (rd_T26 l0 x16_1).f1, (rd_T26 l0 x16_1).f2, (rd_T26 l0 x16_1).f3⟩ : S26)] : List (S26))) := ⟨_, rfl⟩
       replace H : (if t303.length + ag.length < 3518437208883 then ((some (t303 ++ ag : List (S26))).bind fun ai => ((plist_idle.f k1 ai).bind fun t312 => (if t312 = true then (plist_Bare.l0 k1 x5_1 l0 (l0.length : Int) (wrap64 (x16_1 + 1))) else (plist_Bare.l0 k1 ai l0 (l0.length : Int) (wrap64 (x16_1 + 1)))))) else (none)) = some (r1, r2) := by first | (rw [hy306]; with_reducible exact H) | (have H2_ := (Option.bind_some _ _).symm.trans H; rw [hy306]; with_reducible exact H2_) | (have H2_ := (Option.bind_some _ _).symm.trans H; with_reducible exact H2_) | with_reducible exact H | (rw [hy306]; exact H) | exact H
       have ah := Aside0.mk hy306
       clear hy306
       by_cases c9 : t303.length + ag.length < 3518437208883
       ·rw [if_pos c9] at H
        have LMc9 := Aside0.mk c9
        clear c9
        obtain ⟨ai, hy309⟩ : ∃ y_ : List (S26), y_ = (t303 ++ ag) := ⟨_, rfl⟩
        replace H : ((plist_idle.f k1 ai).bind fun t312 => (if t312 = true then (plist_Bare.l0 k1 x5_1 l0 (l0.length : Int) (wrap64 (x16_1 + 1))) else (plist_Bare.l0 k1 ai l0 (l0.length : Int) (wrap64 (x16_1 + 1))))) = some (r1, r2) := by first | (rw [hy309]; with_reducible exact H) | (have H2_ := (Option.bind_some _ _).symm.trans H; rw [hy309]; with_reducible exact H2_) | (have H2_ := (Option.bind_some _ _).symm.trans H; with_reducible exact H2_) | with_reducible exact H | (rw [hy309]; exact H) | exact H
        have Ny309 := Aside0.mk hy309
        clear hy309
        replace H := Option.bind_eq_some_iff.mp H
        obtain ⟨t312, A100, H⟩ := H
        (try dsimp only at H)
        have A10 := Aside0.mk A100
        clear A100
        by_cases c11 : t312 = true
        ·subst c11
         have H1 : (plist_Bare.l0 k1 x5_1 l0 (l0.length : Int) (wrap64 (x16_1 + 1))) = some (r1, r2) := by rw [if_pos rfl] at H; exact H
         clear H
         have H := H1
         clear H1
         have H' := Aside0.mk H
         clear H
         have p301 : 0 ≤ (x16_1 : Int) := of_decide_eq_true (by first | (with_reducible assumption) | assumption)
         have q301 : x16_1 < (l0.length : Int) := of_decide_eq_true (by first | (with_reducible assumption) | assumption)
         obtain ⟨ad301, e301, hx301_0, hx301_1, hx301_2, hx301_3, hx301_4⟩ := at_T26 HR0.out x16_1 p301 q301
         (try (injection e301 with e301; replace e301 := e301.symm; subst e301; have e301 : True := trivial))
         cases e301
         replace hx301_0 := (HB.out.cell (World.block_lt_of_cell? w _ hx301_0)).trans hx301_0
         replace hx301_1 := (HB.out.cell (World.block_lt_of_cell? w _ hx301_1)).trans hx301_1
         replace hx301_2 := (HB.out.cell (World.block_lt_of_cell? w _ hx301_2)).trans hx301_2
         replace hx301_3 := (HB.out.cell (World.block_lt_of_cell? w _ hx301_3)).trans hx301_3
         replace hx301_4 := (HB.out.cell (World.block_lt_of_cell? w _ hx301_4)).trans hx301_4
         replace p301 := eq_true p301
         replace q301 := eq_true q301
         try go_wp2_with (first | ((with_reducible refine gate_dst (N := 7) rfl ?_); refine box_event ?hg (N := 7) ?hd (cs := #[.int .u32 0, .int .i64 0, .int .i64 0, .int .i64 0, .bool false]) (t := 26) ?hr ?_; (case hd => rfl); (case hg => rfl); (case hr => first | (go_simp; done) | (go_simp; rfl)); intro aa hg w12 hbox hb; have n0_ := Aside0.mk (Kd.R_below (Kd.R_elderB (by (with_reducible repeat (first | apply Kd.R_alloc | apply Kd.R_drewN | apply Kd.R_drew)); exact HO_5.out) aa (Nat.le_of_eq hg.symm)) hb); have n1_ := Aside0.mk (below_step (by repeat (first | (with_reducible first | exact HB.out | apply below_alloc | apply pw_below_drewN | apply below_drew1) | exact HB.out)) hb); have n2_ := Aside0.mk (hbox); have n3_ := Aside0.mk ((by rw [hg]; exact (below_size (by repeat (first | (with_reducible first | exact HB.out | apply below_alloc | apply pw_below_drewN | apply below_drew1) | exact HB.out))) : w.heap.size ≤ aa)); have n4_ := Aside0.mk ((by rw [hg]; exact (below_size (by repeat (first | (with_reducible first | exact HB.out | apply below_alloc | apply pw_below_drewN | apply below_drew1) | exact HB.out))) : w.heap.size ≤ aa)); clear HO_5; clear HB; have HO_5 := n0_; have HB := n1_; have ab := n2_; have GW302 := n3_; have ac := n4_; clear n0_ n1_ n2_ n3_ n4_; clear hb hbox hg; have hcz13_0 : w12.cell? ⟨aa, 0, none⟩ = some (.int .u32 0) := (blk_cell ab.out 0).trans rfl; have hcz13_1 : w12.cell? ⟨aa, 1, none⟩ = some (.int .i64 0) := (blk_cell ab.out 1).trans rfl; have hcz13_2 : w12.cell? ⟨aa, 2, none⟩ = some (.int .i64 0) := (blk_cell ab.out 2).trans rfl; have hcz13_3 : w12.cell? ⟨aa, 3, none⟩ = some (.int .i64 0) := (blk_cell ab.out 3).trans rfl; have hcz13_4 : w12.cell? ⟨aa, 4, none⟩ = some (.bool false) := (blk_cell ab.out 4).trans rfl; have hfz13_0 := blk_frozen ab.out 0; have hfz13_1 := blk_frozen ab.out 1; have hfz13_2 := blk_frozen ab.out 2; have hfz13_3 := blk_frozen ab.out 3; have hfz13_4 := blk_frozen ab.out 4; obtain ⟨aj, ak, eo14⟩ := Kd.R_slice HO_5.out; subst eo14))
         have n0_ : Aside0 (Kd.R k26 26 (((((w12.setCell ⟨aa, 0, none⟩ (.int .u32 ((rd_T26 l0 x16_1).f0.f0))).setCell ⟨aa, 1, none⟩ (.int .i64 ((rd_T26 l0 x16_1).f0.f1))).setCell ⟨aa, 2, none⟩ (.int .i64 ((rd_T26 l0 x16_1).f1))).setCell ⟨aa, 3, none⟩ (.int .i64 ((rd_T26 l0 x16_1).f2))).setCell ⟨aa, 4, none⟩ (.bool ((rd_T26 l0 x16_1).f3))) w.heap.size (fun k_ => k_ ≠ aa) (.slice aj x5_1.length ak) x5_1) := ⟨by (with_reducible repeat (first | apply Kd.R_alloc | apply Kd.R_drewN | apply Kd.R_drew)); exact Kd.R_mono (Kd.R_far (p := ⟨aa, 4, none⟩) (Kd.R_far (p := ⟨aa, 3, none⟩) (Kd.R_far (p := ⟨aa, 2, none⟩) (Kd.R_far (p := ⟨aa, 1, none⟩) (Kd.R_far (p := ⟨aa, 0, none⟩) (Kd.R_mono HO_5.out (fun k_ hk => (⟨hk, hk.2⟩ : _ ∧ k_ ≠ aa))) (fun _ hk => hk.2) (.int .u32 ((rd_T26 l0 x16_1).f0.f0))) (fun _ hk => hk.2) (.int .i64 ((rd_T26 l0 x16_1).f0.f1))) (fun _ hk => hk.2) (.int .i64 ((rd_T26 l0 x16_1).f1))) (fun _ hk => hk.2) (.int .i64 ((rd_T26 l0 x16_1).f2))) (fun _ hk => hk.2) (.bool ((rd_T26 l0 x16_1).f3))) (fun _ hk => hk.1.2)⟩
         have n1_ : Aside0 ((((((w12.setCell ⟨aa, 0, none⟩ (.int .u32 ((rd_T26 l0 x16_1).f0.f0))).setCell ⟨aa, 1, none⟩ (.int .i64 ((rd_T26 l0 x16_1).f0.f1))).setCell ⟨aa, 2, none⟩ (.int .i64 ((rd_T26 l0 x16_1).f1))).setCell ⟨aa, 3, none⟩ (.int .i64 ((rd_T26 l0 x16_1).f2))).setCell ⟨aa, 4, none⟩ (.bool ((rd_T26 l0 x16_1).f3))).heap[aa]? = some (.cells #[.int .u32 ((rd_T26 l0 x16_1).f0.f0), .int .i64 ((rd_T26 l0 x16_1).f0.f1), .int .i64 ((rd_T26 l0 x16_1).f1), .int .i64 ((rd_T26 l0 x16_1).f2), .bool ((rd_T26 l0 x16_1).f3)] 26 (0, 0))) := ⟨by (with_reducible repeat (first | refine blk_drewN ?_ _ | refine blk_drew ?_ | refine blk_alloc ?_ _)); refine blk_put (cs := #[.int .u32 ((rd_T26 l0 x16_1).f0.f0), .int .i64 ((rd_T26 l0 x16_1).f0.f1), .int .i64 ((rd_T26 l0 x16_1).f1), .int .i64 ((rd_T26 l0 x16_1).f2), .bool false]) ?_ 4 _ (by first | rfl | (simp; done) | (simp; omega)); (with_reducible repeat (first | refine blk_drewN ?_ _ | refine blk_drew ?_ | refine blk_alloc ?_ _)); refine blk_put (cs := #[.int .u32 ((rd_T26 l0 x16_1).f0.f0), .int .i64 ((rd_T26 l0 x16_1).f0.f1), .int .i64 ((rd_T26 l0 x16_1).f1), .int .i64 0, .bool false]) ?_ 3 _ (by first | rfl | (simp; done) | (simp; omega)); (with_reducible repeat (first | refine blk_drewN ?_ _ | refine blk_drew ?_ | refine blk_alloc ?_ _)); refine blk_put (cs := #[.int .u32 ((rd_T26 l0 x16_1).f0.f0), .int .i64 ((rd_T26 l0 x16_1).f0.f1), .int .i64 0, .int .i64 0, .bool false]) ?_ 2 _ (by first | rfl | (simp; done) | (simp; omega)); (with_reducible repeat (first | refine blk_drewN ?_ _ | refine blk_drew ?_ | refine blk_alloc ?_ _)); refine blk_put (cs := #[.int .u32 ((rd_T26 l0 x16_1).f0.f0), .int .i64 0, .int .i64 0, .int .i64 0, .bool false]) ?_ 1 _ (by first | rfl | (simp; done) | (simp; omega)); (with_reducible repeat (first | refine blk_drewN ?_ _ | refine blk_drew ?_ | refine blk_alloc ?_ _)); refine blk_put (cs := #[.int .u32 0, .int .i64 0, .int .i64 0, .int .i64 0, .bool false]) ?_ 0 _ (by first | rfl | (simp; done) | (simp; omega)); (with_reducible repeat (first | refine blk_drewN ?_ _ | refine blk_drew ?_ | refine blk_alloc ?_ _)); exact ab.out⟩
         have n2_ : Aside0 (Below w.heap.size w (((((w12.setCell ⟨aa, 0, none⟩ (.int .u32 ((rd_T26 l0 x16_1).f0.f0))).setCell ⟨aa, 1, none⟩ (.int .i64 ((rd_T26 l0 x16_1).f0.f1))).setCell ⟨aa, 2, none⟩ (.int .i64 ((rd_T26 l0 x16_1).f1))).setCell ⟨aa, 3, none⟩ (.int .i64 ((rd_T26 l0 x16_1).f2))).setCell ⟨aa, 4, none⟩ (.bool ((rd_T26 l0 x16_1).f3)))) := ⟨by repeat (first | (with_reducible first | exact HB.out | apply below_alloc | apply pw_below_drewN | apply below_drew1 | refine below_set ?_ ac.out) | exact HB.out)⟩
         (try clear HO_5)
         (try clear ab)
         (try clear HB)
         generalize (((((w12.setCell ⟨aa, 0, none⟩ (.int .u32 ((rd_T26 l0 x16_1).f0.f0))).setCell ⟨aa, 1, none⟩ (.int .i64 ((rd_T26 l0 x16_1).f0.f1))).setCell ⟨aa, 2, none⟩ (.int .i64 ((rd_T26 l0 x16_1).f1))).setCell ⟨aa, 3, none⟩ (.int .i64 ((rd_T26 l0 x16_1).f2))).setCell ⟨aa, 4, none⟩ (.bool ((rd_T26 l0 x16_1).f3))) = w15 at n0_ n1_ n2_ ⊢
         have HO_5 := n0_
         have ab := n1_
         have HB := n2_
         clear n0_ n1_ n2_
         replace HO_5 := Aside0.mk (Kd.R_drew HO_5.out)
         replace ab := Aside0.mk (blk_drew ab.out)
         replace HB := Aside0.mk (below_drew1 HB.out)
         refine start_ (n := 6) (S := fun w' => w'.cell? ⟨aa, 0, none⟩ = some (.int .u32 ((rd_T26 l0 x16_1).f0.f0)) ∧ w'.cell? ⟨aa, 1, none⟩ = some (.int .i64 ((rd_T26 l0 x16_1).f0.f1)) ∧ w'.cell? ⟨aa, 2, none⟩ = some (.int .i64 ((rd_T26 l0 x16_1).f1)) ∧ w'.cell? ⟨aa, 3, none⟩ = some (.int .i64 ((rd_T26 l0 x16_1).f2)) ∧ w'.cell? ⟨aa, 4, none⟩ = some (.bool ((rd_T26 l0 x16_1).f3))) (ds := []) #[false, false, false, false, false, false] (by kernel_rfl) rfl rfl (k24d0.b5e ab.out) (fun hHeld => ?_)
         generalize w15.drew = w16 at HO_5 ab HB hHeld ⊢
         refine pure_ (i := 0) (N := some 20) (v := ?_) (a' := ?_) #[true, false, false, false, false, false] rfl rfl (by kernel_rfl) (fun _ _ _ h => h) (Or.inl ⟨by rfl, ?_⟩) ?_ ?_
         rotate_left
         ·intro w'
          go_simp
          with_reducible rfl
         rotate_left
         ·simp only [Act.put, List.setIfInBounds_toArray, List.set_cons_zero, List.set_cons_succ, i64_w]
          rfl
         refine take_ (i := 2) (N := some 22) (v := ?_) (a' := ?_) #[true, false, true, false, false, false] rfl rfl (by kernel_rfl) (fun _ _ _ h => h) (Or.inl ⟨by rfl, ?_⟩) hHeld ?_ ?_
         rotate_left
         ·rintro w' ⟨s0, s1, s2, s3, s4⟩
          go_simp
          with_reducible rfl
         rotate_left
         ·simp only [Act.put, List.setIfInBounds_toArray, List.set_cons_zero, List.set_cons_succ, i64_w]
          rfl
         refine join_ (σ := Value × Value) 2 #[true, true, true, true, false, false] (fun s_ => [(21, s_.1), (23, s_.2)]) (fun s_ w' => (w'.cell? ⟨aa, 0, none⟩ = some (.int .u32 ((rd_T26 l0 x16_1).f0.f0)) ∧ w'.cell? ⟨aa, 1, none⟩ = some (.int .i64 ((rd_T26 l0 x16_1).f0.f1)) ∧ w'.cell? ⟨aa, 2, none⟩ = some (.int .i64 ((rd_T26 l0 x16_1).f1)) ∧ w'.cell? ⟨aa, 3, none⟩ = some (.int .i64 ((rd_T26 l0 x16_1).f2)) ∧ w'.cell? ⟨aa, 4, none⟩ = some (.bool ((rd_T26 l0 x16_1).f3))) ∧ (Kd.R k26 26 w' w.heap.size (fun k_ => some k_ ≠ (s_.2 : Value).ownBlock ∧ some k_ ≠ (.slice aj x5_1.length ak : Value).ownBlock ∧ k_ ≠ aa) s_.1 t303) ∧ (Kd.R k26 26 w' w.heap.size (fun k_ => some k_ ≠ (s_.1 : Value).ownBlock ∧ some k_ ≠ (.slice aj x5_1.length ak : Value).ownBlock ∧ k_ ≠ aa) s_.2 ag) ∧ (Kd.R k26 26 w' w.heap.size (fun k_ => some k_ ≠ (s_.1 : Value).ownBlock ∧ some k_ ≠ (s_.2 : Value).ownBlock ∧ k_ ≠ aa) (.slice aj x5_1.length ak) x5_1) ∧ (w'.heap[aa]? = some (.cells #[.int .u32 ((rd_T26 l0 x16_1).f0.f0), .int .i64 ((rd_T26 l0 x16_1).f0.f1), .int .i64 ((rd_T26 l0 x16_1).f1), .int .i64 ((rd_T26 l0 x16_1).f2), .bool ((rd_T26 l0 x16_1).f3)] 26 (0, 0))) ∧ (Below w.heap.size w w')) ?_ ?_
         rotate_left
         ·intro hCont
          refine two_ (i := 1) (j := 3) (Ni := some 21) (Nj := some 23) #[true, true, true, false, false, false] #[true, false, true, true, false, false] rfl rfl rfl rfl (by kernel_rfl) (by decide) (by decide) (fun K hK => ?_) (fun K hK => ?_)
          ·skip
           refine goes_ Try.func39 (by kernel_rfl) rfl #[.slice aj x5_1.length ak] (by rfl) rfl rfl (by (try simp only [List.map_toArray, List.map_cons, List.map_nil]); first | done | rfl) ?_
           with_reducible refine (api_Range_39.calls _ _ x5_1 t303 _ ?side1 ?side2 A8.out).mono ?_
           (case side1 => repeat (first | exact (Kd.R_reads' HO_5.out).2.2 | (with_reducible refine Kd.C_alloc ?_ _) | (with_reducible refine Kd.C_drewN ?_ _) | (with_reducible refine Kd.C_drew ?_)))
           (case side2 => exact (Kd.R_reads' HO_5.out).2.1)
           rintro e w17 ⟨v304, rfl, ho0, hb⟩
           refine ⟨_, rfl, ?_⟩
           have n0_ := Aside0.mk (Kd.R_elder' (by (with_reducible repeat (first | apply Kd.R_alloc | apply Kd.R_drewN | apply Kd.R_drew)); exact HO_5.out) (Kd.R_base ho0) hb)
           have n1_ := Aside0.mk (Kd.R_lower (Kd.R_newB (Kd.R_new' ho0 (Kd.R_lt (by (with_reducible repeat (first | apply Kd.R_alloc | apply Kd.R_drewN | apply Kd.R_drew)); exact HO_5.out))) (g := aa) (o := .cells #[.int .u32 ((rd_T26 l0 x16_1).f0.f0), .int .i64 ((rd_T26 l0 x16_1).f0.f1), .int .i64 ((rd_T26 l0 x16_1).f1), .int .i64 ((rd_T26 l0 x16_1).f2), .bool ((rd_T26 l0 x16_1).f3)] 26 (0, 0)) (by (with_reducible repeat (first | refine blk_drewN ?_ _ | refine blk_drew ?_ | refine blk_alloc ?_ _)); exact ab.out)) (below_size (by repeat (first | (with_reducible first | exact HB.out | apply below_alloc | apply pw_below_drewN | apply below_drew1 | refine below_set ?_ ac.out) | exact HB.out))))
           have n2_ := Aside0.mk (blk_below (g := aa) (by (with_reducible repeat (first | refine blk_drewN ?_ _ | refine blk_drew ?_ | refine blk_alloc ?_ _)); exact ab.out) hb)
           have n3_ := Aside0.mk (below_step (by repeat (first | (with_reducible first | exact HB.out | apply below_alloc | apply pw_below_drewN | apply below_drew1 | refine below_set ?_ ac.out) | exact HB.out)) hb)
           clear HO_5
           clear ab
           clear HB
           have HO_5 := n0_
           have ae := n1_
           have ab := n2_
           have HB := n3_
           clear n0_ n1_ n2_ n3_
           (try clear hb)
           (try clear hb2)
           (try clear hk)
           (try clear hi)
           (try clear ho0)
           refine hK.out _ _ (k24d0.b5e ab.out) (fun hHeld => ?_)
           clear hK K
           refine norm_ (a' := ?_) ?_ ?_
           rotate_left
           ·show Act.put _ (some 21) _ = _
            simp only [Act.put, List.setIfInBounds_toArray, List.set_cons_zero, List.set_cons_succ, i64_w]
            rfl
           refine one_ (i := 3) (N := some 23) #[true, true, true, true, false, false] rfl rfl (by kernel_rfl) (by decide) (fun K hK => ?_)
           refine Kd.R_lit_step k26 _ 26 ?hg (N := 23) ?hd (xs := ([(⟨(⟨(rd_T26 l0 x16_1).f0.f0, (rd_T26 l0 x16_1).f0.f1⟩ : S24), (rd_T26 l0 x16_1).f1, (rd_T26 l0 x16_1).f2, (rd_T26 l0 x16_1).f3⟩ : S26)] : List (S26))) (inner := [.int .u32 ((rd_T26 l0 x16_1).f0.f0), .int .i64 ((rd_T26 l0 x16_1).f0.f1), .int .i64 ((rd_T26 l0 x16_1).f1), .int .i64 ((rd_T26 l0 x16_1).f2), .bool ((rd_T26 l0 x16_1).f3)]) (ok := fun _ => True) (okp := fun _ => True) ?hr ?hp (fun _ hk => hk) trivial (Below.refl _ _) (Nat.le_refl _) (by simp) ?_; (case hd => rfl); (case hg => rfl); (case hr => first | (go_simp; done) | (go_simp; rfl)); (case hp => exact (Reps.c5 (show Kd.M k26 _ _ _ (⟨(⟨(rd_T26 l0 x16_1).f0.f0, (rd_T26 l0 x16_1).f0.f1⟩ : S24), (rd_T26 l0 x16_1).f1, (rd_T26 l0 x16_1).f2, (rd_T26 l0 x16_1).f3⟩ : S26) [.int .u32 ((rd_T26 l0 x16_1).f0.f0), .int .i64 ((rd_T26 l0 x16_1).f0.f1), .int .i64 ((rd_T26 l0 x16_1).f1), .int .i64 ((rd_T26 l0 x16_1).f2), .bool ((rd_T26 l0 x16_1).f3)] from (k26_mkM _ _ _ (⟨(⟨(rd_T26 l0 x16_1).f0.f0, (rd_T26 l0 x16_1).f0.f1⟩ : S24), (rd_T26 l0 x16_1).f1, (rd_T26 l0 x16_1).f2, (rd_T26 l0 x16_1).f3⟩ : S26) )) (Reps.none _ _)))
           intro v307 w18 ho19 hb hg_ hnew_
           clear hg_ hnew_
           (first | rw [← ah.out] at ho19 | (simp only [Int.reduceToNat] at ho19; rw [← ah.out] at ho19))
           have n0_ := Aside0.mk (Kd.R_elder' (by (with_reducible repeat (first | apply Kd.R_alloc | apply Kd.R_drewN | apply Kd.R_drew)); exact HO_5.out) (Kd.R_base ho19) hb)
           have n1_ := Aside0.mk (Kd.R_elder' (by (with_reducible repeat (first | apply Kd.R_alloc | apply Kd.R_drewN | apply Kd.R_drew)); exact ae.out) (Kd.R_base ho19) hb)
           have n2_ := Aside0.mk (Kd.R_lower (Kd.R_newB (Kd.R_new' (Kd.R_new' ho19 (Kd.R_lt (by (with_reducible repeat (first | apply Kd.R_alloc | apply Kd.R_drewN | apply Kd.R_drew)); exact HO_5.out))) (Kd.R_lt (by (with_reducible repeat (first | apply Kd.R_alloc | apply Kd.R_drewN | apply Kd.R_drew)); exact ae.out))) (g := aa) (o := .cells #[.int .u32 ((rd_T26 l0 x16_1).f0.f0), .int .i64 ((rd_T26 l0 x16_1).f0.f1), .int .i64 ((rd_T26 l0 x16_1).f1), .int .i64 ((rd_T26 l0 x16_1).f2), .bool ((rd_T26 l0 x16_1).f3)] 26 (0, 0)) (by (with_reducible repeat (first | refine blk_drewN ?_ _ | refine blk_drew ?_ | refine blk_alloc ?_ _)); exact ab.out)) (below_size (by repeat (first | (with_reducible first | exact HB.out | apply below_alloc | apply pw_below_drewN | apply below_drew1 | refine below_set ?_ ac.out) | exact HB.out))))
           have n3_ := Aside0.mk (blk_below (g := aa) (by (with_reducible repeat (first | refine blk_drewN ?_ _ | refine blk_drew ?_ | refine blk_alloc ?_ _)); exact ab.out) hb)
           have n4_ := Aside0.mk (below_step (by repeat (first | (with_reducible first | exact HB.out | apply below_alloc | apply pw_below_drewN | apply below_drew1 | refine below_set ?_ ac.out) | exact HB.out)) hb)
           clear HO_5
           clear ae
           clear ab
           clear HB
           have HO_5 := n0_
           have ae := n1_
           have ad := n2_
           have ab := n3_
           have HB := n4_
           clear n0_ n1_ n2_ n3_ n4_
           clear hb ho19
           refine hK.out _ _ (k24d0.b5e ab.out) (fun hHeld => ?_)
           clear hK K
           refine norm_ (a' := ?_) ?_ ?_
           rotate_left
           ·show Act.put _ (some 23) _ = _
            simp only [Act.put, List.setIfInBounds_toArray, List.set_cons_zero, List.set_cons_succ, i64_w]
            rfl
           exact norm_ (by simp only [putAll, Act.put, List.setIfInBounds_toArray, List.set_cons_zero, List.set_cons_succ]) (hCont (v304, v307) _ ⟨hHeld, (by (with_reducible repeat (first | apply Kd.R_alloc | apply Kd.R_drewN | apply Kd.R_drew)); exact Kd.R_mono ae.out (fun _ hk => ⟨hk.2, ⟨hk.1.1.2, hk.1.2⟩⟩)), (by (with_reducible repeat (first | apply Kd.R_alloc | apply Kd.R_drewN | apply Kd.R_drew)); exact Kd.R_mono ad.out (fun _ hk => ⟨hk.1.2, ⟨hk.1.1.2, hk.2⟩⟩)), (by (with_reducible repeat (first | apply Kd.R_alloc | apply Kd.R_drewN | apply Kd.R_drew)); exact Kd.R_mono HO_5.out (fun _ hk => ⟨hk.1.2, ⟨hk.2, hk.1.1⟩⟩)), (by (with_reducible repeat (first | refine blk_drewN ?_ _ | refine blk_drew ?_ | refine blk_alloc ?_ _)); exact ab.out), (by repeat (first | (with_reducible first | exact HB.out | apply below_alloc | apply pw_below_drewN | apply below_drew1 | refine below_set ?_ ac.out) | exact HB.out))⟩)
          ·skip
           refine Kd.R_lit_step k26 _ 26 ?hg (N := 23) ?hd (xs := ([(⟨(⟨(rd_T26 l0 x16_1).f0.f0, (rd_T26 l0 x16_1).f0.f1⟩ : S24), (rd_T26 l0 x16_1).f1, (rd_T26 l0 x16_1).f2, (rd_T26 l0 x16_1).f3⟩ : S26)] : List (S26))) (inner := [.int .u32 ((rd_T26 l0 x16_1).f0.f0), .int .i64 ((rd_T26 l0 x16_1).f0.f1), .int .i64 ((rd_T26 l0 x16_1).f1), .int .i64 ((rd_T26 l0 x16_1).f2), .bool ((rd_T26 l0 x16_1).f3)]) (ok := fun _ => True) (okp := fun _ => True) ?hr ?hp (fun _ hk => hk) trivial (Below.refl _ _) (Nat.le_refl _) (by simp) ?_; (case hd => rfl); (case hg => rfl); (case hr => first | (go_simp; done) | (go_simp; rfl)); (case hp => exact (Reps.c5 (show Kd.M k26 _ _ _ (⟨(⟨(rd_T26 l0 x16_1).f0.f0, (rd_T26 l0 x16_1).f0.f1⟩ : S24), (rd_T26 l0 x16_1).f1, (rd_T26 l0 x16_1).f2, (rd_T26 l0 x16_1).f3⟩ : S26) [.int .u32 ((rd_T26 l0 x16_1).f0.f0), .int .i64 ((rd_T26 l0 x16_1).f0.f1), .int .i64 ((rd_T26 l0 x16_1).f1), .int .i64 ((rd_T26 l0 x16_1).f2), .bool ((rd_T26 l0 x16_1).f3)] from (k26_mkM _ _ _ (⟨(⟨(rd_T26 l0 x16_1).f0.f0, (rd_T26 l0 x16_1).f0.f1⟩ : S24), (rd_T26 l0 x16_1).f1, (rd_T26 l0 x16_1).f2, (rd_T26 l0 x16_1).f3⟩ : S26) )) (Reps.none _ _)))
           intro v307 w17 ho18 hb hg_ hnew_
           clear hg_ hnew_
           (first | rw [← ah.out] at ho18 | (simp only [Int.reduceToNat] at ho18; rw [← ah.out] at ho18))
           have n0_ := Aside0.mk (Kd.R_elder' (by (with_reducible repeat (first | apply Kd.R_alloc | apply Kd.R_drewN | apply Kd.R_drew)); exact HO_5.out) (Kd.R_base ho18) hb)
           have n1_ := Aside0.mk (Kd.R_lower (Kd.R_newB (Kd.R_new' ho18 (Kd.R_lt (by (with_reducible repeat (first | apply Kd.R_alloc | apply Kd.R_drewN | apply Kd.R_drew)); exact HO_5.out))) (g := aa) (o := .cells #[.int .u32 ((rd_T26 l0 x16_1).f0.f0), .int .i64 ((rd_T26 l0 x16_1).f0.f1), .int .i64 ((rd_T26 l0 x16_1).f1), .int .i64 ((rd_T26 l0 x16_1).f2), .bool ((rd_T26 l0 x16_1).f3)] 26 (0, 0)) (by (with_reducible repeat (first | refine blk_drewN ?_ _ | refine blk_drew ?_ | refine blk_alloc ?_ _)); exact ab.out)) (below_size (by repeat (first | (with_reducible first | exact HB.out | apply below_alloc | apply pw_below_drewN | apply below_drew1 | refine below_set ?_ ac.out) | exact HB.out))))
           have n2_ := Aside0.mk (blk_below (g := aa) (by (with_reducible repeat (first | refine blk_drewN ?_ _ | refine blk_drew ?_ | refine blk_alloc ?_ _)); exact ab.out) hb)
           have n3_ := Aside0.mk (below_step (by repeat (first | (with_reducible first | exact HB.out | apply below_alloc | apply pw_below_drewN | apply below_drew1 | refine below_set ?_ ac.out) | exact HB.out)) hb)
           clear HO_5
           clear ab
           clear HB
           have HO_5 := n0_
           have ad := n1_
           have ab := n2_
           have HB := n3_
           clear n0_ n1_ n2_ n3_
           clear hb ho18
           refine hK.out _ _ (k24d0.b5e ab.out) (fun hHeld => ?_)
           clear hK K
           refine norm_ (a' := ?_) ?_ ?_
           rotate_left
           ·show Act.put _ (some 23) _ = _
            simp only [Act.put, List.setIfInBounds_toArray, List.set_cons_zero, List.set_cons_succ, i64_w]
            rfl
           refine one_ (i := 1) (N := some 21) #[true, true, true, true, false, false] rfl rfl (by kernel_rfl) (by decide) (fun K hK => ?_)
           refine goes_ Try.func39 (by kernel_rfl) rfl #[.slice aj x5_1.length ak] (by rfl) rfl rfl (by (try simp only [List.map_toArray, List.map_cons, List.map_nil]); first | done | rfl) ?_
           with_reducible refine (api_Range_39.calls _ _ x5_1 t303 _ ?side1 ?side2 A8.out).mono ?_
           (case side1 => repeat (first | exact (Kd.R_reads' HO_5.out).2.2 | (with_reducible refine Kd.C_alloc ?_ _) | (with_reducible refine Kd.C_drewN ?_ _) | (with_reducible refine Kd.C_drew ?_)))
           (case side2 => exact (Kd.R_reads' HO_5.out).2.1)
           rintro e w19 ⟨v304, rfl, ho0, hb⟩
           refine ⟨_, rfl, ?_⟩
           have n0_ := Aside0.mk (Kd.R_elder' (by (with_reducible repeat (first | apply Kd.R_alloc | apply Kd.R_drewN | apply Kd.R_drew)); exact HO_5.out) (Kd.R_base ho0) hb)
           have n1_ := Aside0.mk (Kd.R_elder' (by (with_reducible repeat (first | apply Kd.R_alloc | apply Kd.R_drewN | apply Kd.R_drew)); exact ad.out) (Kd.R_base ho0) hb)
           have n2_ := Aside0.mk (Kd.R_lower (Kd.R_newB (Kd.R_new' (Kd.R_new' ho0 (Kd.R_lt (by (with_reducible repeat (first | apply Kd.R_alloc | apply Kd.R_drewN | apply Kd.R_drew)); exact HO_5.out))) (Kd.R_lt (by (with_reducible repeat (first | apply Kd.R_alloc | apply Kd.R_drewN | apply Kd.R_drew)); exact ad.out))) (g := aa) (o := .cells #[.int .u32 ((rd_T26 l0 x16_1).f0.f0), .int .i64 ((rd_T26 l0 x16_1).f0.f1), .int .i64 ((rd_T26 l0 x16_1).f1), .int .i64 ((rd_T26 l0 x16_1).f2), .bool ((rd_T26 l0 x16_1).f3)] 26 (0, 0)) (by (with_reducible repeat (first | refine blk_drewN ?_ _ | refine blk_drew ?_ | refine blk_alloc ?_ _)); exact ab.out)) (below_size (by repeat (first | (with_reducible first | exact HB.out | apply below_alloc | apply pw_below_drewN | apply below_drew1 | refine below_set ?_ ac.out) | exact HB.out))))
           have n3_ := Aside0.mk (blk_below (g := aa) (by (with_reducible repeat (first | refine blk_drewN ?_ _ | refine blk_drew ?_ | refine blk_alloc ?_ _)); exact ab.out) hb)
           have n4_ := Aside0.mk (below_step (by repeat (first | (with_reducible first | exact HB.out | apply below_alloc | apply pw_below_drewN | apply below_drew1 | refine below_set ?_ ac.out) | exact HB.out)) hb)
           clear HO_5
           clear ad
           clear ab
           clear HB
           have HO_5 := n0_
           have ad := n1_
           have ae := n2_
           have ab := n3_
           have HB := n4_
           clear n0_ n1_ n2_ n3_ n4_
           (try clear hb)
           (try clear hb2)
           (try clear hk)
           (try clear hi)
           (try clear ho0)
           refine hK.out _ _ (k24d0.b5e ab.out) (fun hHeld => ?_)
           clear hK K
           refine norm_ (a' := ?_) ?_ ?_
           rotate_left
           ·show Act.put _ (some 21) _ = _
            simp only [Act.put, List.setIfInBounds_toArray, List.set_cons_zero, List.set_cons_succ, i64_w]
            rfl
           exact norm_ (by simp only [putAll, Act.put, List.setIfInBounds_toArray, List.set_cons_zero, List.set_cons_succ]) (hCont (v304, v307) _ ⟨hHeld, (by (with_reducible repeat (first | apply Kd.R_alloc | apply Kd.R_drewN | apply Kd.R_drew)); exact Kd.R_mono ae.out (fun _ hk => ⟨hk.1.2, ⟨hk.1.1.2, hk.2⟩⟩)), (by (with_reducible repeat (first | apply Kd.R_alloc | apply Kd.R_drewN | apply Kd.R_drew)); exact Kd.R_mono ad.out (fun _ hk => ⟨hk.2, ⟨hk.1.1.2, hk.1.2⟩⟩)), (by (with_reducible repeat (first | apply Kd.R_alloc | apply Kd.R_drewN | apply Kd.R_drew)); exact Kd.R_mono HO_5.out (fun _ hk => ⟨hk.2, ⟨hk.1.2, hk.1.1⟩⟩)), (by (with_reducible repeat (first | refine blk_drewN ?_ _ | refine blk_drew ?_ | refine blk_alloc ?_ _)); exact ab.out), (by repeat (first | (with_reducible first | exact HB.out | apply below_alloc | apply pw_below_drewN | apply below_drew1 | refine below_set ?_ ac.out) | exact HB.out))⟩)
         rintro ⟨v304, v307⟩ w20 ⟨hS_, h0_, h1_, h2_, h3_, h4_⟩
         have n0_ : Aside0 (Kd.R k26 26 w20 w.heap.size (fun k_ => some k_ ≠ (v307 : Value).ownBlock ∧ some k_ ≠ (.slice aj x5_1.length ak : Value).ownBlock ∧ k_ ≠ aa) v304 t303) := ⟨h0_⟩
         have n1_ : Aside0 (Kd.R k26 26 w20 w.heap.size (fun k_ => some k_ ≠ (v304 : Value).ownBlock ∧ some k_ ≠ (.slice aj x5_1.length ak : Value).ownBlock ∧ k_ ≠ aa) v307 ag) := ⟨h1_⟩
         have n2_ : Aside0 (Kd.R k26 26 w20 w.heap.size (fun k_ => some k_ ≠ (v304 : Value).ownBlock ∧ some k_ ≠ (v307 : Value).ownBlock ∧ k_ ≠ aa) (.slice aj x5_1.length ak) x5_1) := ⟨h2_⟩
         have n3_ : Aside0 (w20.heap[aa]? = some (.cells #[.int .u32 ((rd_T26 l0 x16_1).f0.f0), .int .i64 ((rd_T26 l0 x16_1).f0.f1), .int .i64 ((rd_T26 l0 x16_1).f1), .int .i64 ((rd_T26 l0 x16_1).f2), .bool ((rd_T26 l0 x16_1).f3)] 26 (0, 0))) := ⟨h3_⟩
         have n4_ : Aside0 (Below w.heap.size w w20) := ⟨h4_⟩
         clear HO_5
         clear ab
         clear HB
         clear h0_ h1_ h2_ h3_ h4_
         have ae := n0_
         have ad := n1_
         have HO_5 := n2_
         have ab := n3_
         have HB := n4_
         clear n0_ n1_ n2_ n3_ n4_
         have hHeld : w20.cell? ⟨aa, 0, none⟩ = some (.int .u32 ((rd_T26 l0 x16_1).f0.f0)) ∧ w20.cell? ⟨aa, 1, none⟩ = some (.int .i64 ((rd_T26 l0 x16_1).f0.f1)) ∧ w20.cell? ⟨aa, 2, none⟩ = some (.int .i64 ((rd_T26 l0 x16_1).f1)) ∧ w20.cell? ⟨aa, 3, none⟩ = some (.int .i64 ((rd_T26 l0 x16_1).f2)) ∧ w20.cell? ⟨aa, 4, none⟩ = some (.bool ((rd_T26 l0 x16_1).f3)) := hS_
         obtain ⟨Ao22, co22, eo22⟩ := Kd.R_slice ad.out
         (first | subst eo22 | (injection eo22 with f1_ f2_ f3_; have f4_ := f1_.symm; have f5_ := f3_.symm; clear f1_ f2_ f3_; subst f4_; subst f5_))
         refine norm_ (a' := ?_) ?_ ?_
         rotate_left
         ·simp only [putAll, Act.put, List.setIfInBounds_toArray, List.set_cons_zero, List.set_cons_succ]
          rfl
         refine one_ (i := 4) (N := some 24) #[true, true, true, true, true, false] rfl rfl (by kernel_rfl) (by decide) (fun K hK => ?_)
         refine Kd.R_append_rows_step k26 (w0 := w) w.heap.size (by rfl) (.tmp 21) (.tmp 23) 31 26 (.agg #[(.int .u32 0), (.int .i64 0), (.int .i64 0), (.int .i64 0), (.bool false)]) 40 rfl Try.underlying31 info26 rfl (by decide) (by omega) v304 t303 ag _ _ _ (fun k_ => some k_ ≠ (.slice aj x5_1.length ak : Value).ownBlock ∧ some k_ ≠ (.slice Ao22 ag.length co22 : Value).ownBlock ∧ k_ ≠ aa) (fun _ => False) rfl rfl ?aO ?aR (fun _ _ h => h) (fun _ h => h.elim) ?aF ?aB ?aS ?aL ?_
         (case aR => repeat (first | exact (Kd.R_reads' ad.out).2.2 | (with_reducible refine Kd.C_alloc ?_ _) | (with_reducible refine Kd.C_drewN ?_ _) | (with_reducible refine Kd.C_drew ?_)))
         (case aB => exact (by repeat (first | (with_reducible first | exact HB.out | apply below_alloc | apply pw_below_drewN | apply below_drew1 | refine below_set ?_ ac.out) | exact HB.out)))
         (case aF => exact (fun k_ hk => ⟨Kd.fresh' (Kd.R_lt (by (with_reducible repeat (first | apply Kd.R_alloc | apply Kd.R_drewN | apply Kd.R_drew)); exact HO_5.out)) k_ hk, Kd.fresh' (Kd.R_lt (by (with_reducible repeat (first | apply Kd.R_alloc | apply Kd.R_drewN | apply Kd.R_drew)); exact ad.out)) k_ hk, Kd.freshB (g := aa) (o := .cells #[.int .u32 ((rd_T26 l0 x16_1).f0.f0), .int .i64 ((rd_T26 l0 x16_1).f0.f1), .int .i64 ((rd_T26 l0 x16_1).f1), .int .i64 ((rd_T26 l0 x16_1).f2), .bool ((rd_T26 l0 x16_1).f3)] 26 (0, 0)) (by (with_reducible repeat (first | refine blk_drewN ?_ _ | refine blk_drew ?_ | refine blk_alloc ?_ _)); exact ab.out) k_ hk⟩))
         (case aO => exact (by (with_reducible repeat (first | apply Kd.R_alloc | apply Kd.R_drewN | apply Kd.R_drew)); exact Kd.R_mono ae.out (fun _ hk => ⟨hk.2.1, ⟨hk.1, hk.2.2⟩⟩)))
         (case aS => exact (below_size (by repeat (first | (with_reducible first | exact HB.out | apply below_alloc | apply pw_below_drewN | apply below_drew1 | refine below_set ?_ ac.out) | exact HB.out))))
         (case aL => have := LMc9.out; omega)
         intro v310 w21 ho hb hg hat
         rw [← Ny309.out] at ho
         replace HO_5 := Aside0.mk (Kd.R_after (ok := (fun k_ => some k_ ≠ (.slice Ao22 ag.length co22 : Value).ownBlock ∧ k_ ≠ aa)) (by (with_reducible repeat (first | apply Kd.R_alloc | apply Kd.R_drewN | apply Kd.R_drew)); exact Kd.R_mono HO_5.out (fun _ hk => ⟨⟨hk.2.1, hk.2.2⟩, hk.1⟩)) hg hat)
         replace ab := Aside0.mk (blk_grown (g := aa) (o := .cells #[.int .u32 ((rd_T26 l0 x16_1).f0.f0), .int .i64 ((rd_T26 l0 x16_1).f0.f1), .int .i64 ((rd_T26 l0 x16_1).f1), .int .i64 ((rd_T26 l0 x16_1).f2), .bool ((rd_T26 l0 x16_1).f3)] 26 (0, 0)) (by (with_reducible repeat (first | refine blk_drewN ?_ _ | refine blk_drew ?_ | refine blk_alloc ?_ _)); exact ab.out) hg (Kd.R_away ae.out (fun _ hk => hk.2.2)))
         replace ad := Aside0.mk (Kd.R_after (ok := (fun k_ => some k_ ≠ (.slice aj x5_1.length ak : Value).ownBlock ∧ k_ ≠ aa)) (by (with_reducible repeat (first | apply Kd.R_alloc | apply Kd.R_drewN | apply Kd.R_drew)); exact Kd.R_mono ad.out (fun _ hk => ⟨⟨hk.2.1, hk.2.2⟩, hk.1⟩)) hg hat)
         replace HB := Aside0.mk (hb)
         have af := Aside0.mk (ho)
         clear ae
         clear ho hb hg hat
         refine hK.out _ _ (k24d0.b5e ab.out) (fun hHeld => ?_)
         clear hK K
         refine norm_ (a' := ?_) ?_ ?_
         rotate_left
         ·show Act.put _ (some 24) _ = _
          simp only [Act.put, List.setIfInBounds_toArray, List.set_cons_zero, List.set_cons_succ, i64_w]
          rfl
         refine pure_ (i := 5) (N := some 8) (v := ?_) (a' := ?_) #[true, true, true, true, true, true] rfl rfl (by kernel_rfl) (fun _ _ _ h => h) (Or.inl ⟨by rfl, ?_⟩) ?_ ?_
         rotate_left
         ·intro w'
          go_simp
          with_reducible rfl
         rotate_left
         ·simp only [Act.put, List.setIfInBounds_toArray, List.set_cons_zero, List.set_cons_succ, i64_w]
          rfl
         refine done_ (by kernel_rfl) ?_
         obtain ⟨Ao23, co23, eo23⟩ := Kd.R_slice af.out
         subst eo23
         try go_wp2_with (first | ((with_reducible refine gate_callee (f := 37) rfl ?_); refine goesL_ (some 26) rfl rfl Try.func37 (by kernel_rfl) rfl #[.slice Ao23 ai.length co23] rfl (by (try simp only [List.map_toArray, List.map_cons, List.map_nil]); first | done | rfl) ?_; (with_reducible refine (plist_idle.calls k1 _ _ ai true _ ?side1 ?side2 A10.out).mono ?_); (case side1 => repeat (first | exact (Kd.R_reads' af.out).2.2 | (with_reducible refine Kd.C_alloc ?_ _) | (with_reducible refine Kd.C_drewN ?_ _) | (with_reducible refine Kd.C_drew ?_))); (case side2 => exact (Kd.R_reads' af.out).2.1); rintro e w24 ⟨rfl, hb⟩; refine ⟨_, rfl, ?_⟩; replace HO_5 := Aside0.mk (Kd.R_below (by (with_reducible repeat (first | apply Kd.R_alloc | apply Kd.R_drewN | apply Kd.R_drew)); exact HO_5.out) hb); replace ad := Aside0.mk (Kd.R_below (by (with_reducible repeat (first | apply Kd.R_alloc | apply Kd.R_drewN | apply Kd.R_drew)); exact ad.out) hb); replace af := Aside0.mk (Kd.R_below (by (with_reducible repeat (first | apply Kd.R_alloc | apply Kd.R_drewN | apply Kd.R_drew)); exact af.out) hb); replace ab := Aside0.mk (blk_below (g := aa) (by (with_reducible repeat (first | refine blk_drewN ?_ _ | refine blk_drew ?_ | refine blk_alloc ?_ _)); exact ab.out) hb); replace HB := Aside0.mk (below_step (by repeat (first | (with_reducible first | exact HB.out | apply below_alloc | apply pw_below_drewN | apply below_drew1 | refine below_set ?_ ac.out) | exact HB.out)) hb); (try clear hb); (try clear hb2); (try clear hk); (try clear hi)))
         go_roundg k1
         case measure => have := HK1.out; omega
         case rel => exact ⟨(x5_1), (wrap64 (x16_1 + 1)), (by first | rfl | (simp; done) | (simp [*]; done)), H', ⟨by have := HK1.out; omega⟩, ⟨by (with_reducible repeat (first | apply Kd.R_alloc | apply Kd.R_drewN | apply Kd.R_drew)); exact Kd.R_mono HO_5.out (fun _ hk => trivial)⟩, ⟨by repeat (first | (with_reducible first | exact HB.out | apply below_alloc | apply pw_below_drewN | apply below_drew1 | refine below_set ?_ ac.out) | exact HB.out)⟩⟩
        ·replace c11 := Bool.eq_false_iff.mpr c11
         subst c11
         have H1 : (plist_Bare.l0 k1 ai l0 (l0.length : Int) (wrap64 (x16_1 + 1))) = some (r1, r2) := by rw [if_neg (show ¬ (false = true) by decide)] at H; exact H
         clear H
         have H := H1
         clear H1
         have H' := Aside0.mk H
         clear H
         have p301 : 0 ≤ (x16_1 : Int) := of_decide_eq_true (by first | (with_reducible assumption) | assumption)
         have q301 : x16_1 < (l0.length : Int) := of_decide_eq_true (by first | (with_reducible assumption) | assumption)
         obtain ⟨ad301, e301, hx301_0, hx301_1, hx301_2, hx301_3, hx301_4⟩ := at_T26 HR0.out x16_1 p301 q301
         (try (injection e301 with e301; replace e301 := e301.symm; subst e301; have e301 : True := trivial))
         cases e301
         replace hx301_0 := (HB.out.cell (World.block_lt_of_cell? w _ hx301_0)).trans hx301_0
         replace hx301_1 := (HB.out.cell (World.block_lt_of_cell? w _ hx301_1)).trans hx301_1
         replace hx301_2 := (HB.out.cell (World.block_lt_of_cell? w _ hx301_2)).trans hx301_2
         replace hx301_3 := (HB.out.cell (World.block_lt_of_cell? w _ hx301_3)).trans hx301_3
         replace hx301_4 := (HB.out.cell (World.block_lt_of_cell? w _ hx301_4)).trans hx301_4
         replace p301 := eq_true p301
         replace q301 := eq_true q301
         try go_wp2_with (first | ((with_reducible refine gate_dst (N := 7) rfl ?_); refine box_event ?hg (N := 7) ?hd (cs := #[.int .u32 0, .int .i64 0, .int .i64 0, .int .i64 0, .bool false]) (t := 26) ?hr ?_; (case hd => rfl); (case hg => rfl); (case hr => first | (go_simp; done) | (go_simp; rfl)); intro aa hg w25 hbox hb; have n0_ := Aside0.mk (Kd.R_below (Kd.R_elderB (by (with_reducible repeat (first | apply Kd.R_alloc | apply Kd.R_drewN | apply Kd.R_drew)); exact HO_5.out) aa (Nat.le_of_eq hg.symm)) hb); have n1_ := Aside0.mk (below_step (by repeat (first | (with_reducible first | exact HB.out | apply below_alloc | apply pw_below_drewN | apply below_drew1) | exact HB.out)) hb); have n2_ := Aside0.mk (hbox); have n3_ := Aside0.mk ((by rw [hg]; exact (below_size (by repeat (first | (with_reducible first | exact HB.out | apply below_alloc | apply pw_below_drewN | apply below_drew1) | exact HB.out))) : w.heap.size ≤ aa)); have n4_ := Aside0.mk ((by rw [hg]; exact (below_size (by repeat (first | (with_reducible first | exact HB.out | apply below_alloc | apply pw_below_drewN | apply below_drew1) | exact HB.out))) : w.heap.size ≤ aa)); clear HO_5; clear HB; have HO_5 := n0_; have HB := n1_; have ab := n2_; have GW302 := n3_; have ac := n4_; clear n0_ n1_ n2_ n3_ n4_; clear hb hbox hg; have hcz26_0 : w25.cell? ⟨aa, 0, none⟩ = some (.int .u32 0) := (blk_cell ab.out 0).trans rfl; have hcz26_1 : w25.cell? ⟨aa, 1, none⟩ = some (.int .i64 0) := (blk_cell ab.out 1).trans rfl; have hcz26_2 : w25.cell? ⟨aa, 2, none⟩ = some (.int .i64 0) := (blk_cell ab.out 2).trans rfl; have hcz26_3 : w25.cell? ⟨aa, 3, none⟩ = some (.int .i64 0) := (blk_cell ab.out 3).trans rfl; have hcz26_4 : w25.cell? ⟨aa, 4, none⟩ = some (.bool false) := (blk_cell ab.out 4).trans rfl; have hfz26_0 := blk_frozen ab.out 0; have hfz26_1 := blk_frozen ab.out 1; have hfz26_2 := blk_frozen ab.out 2; have hfz26_3 := blk_frozen ab.out 3; have hfz26_4 := blk_frozen ab.out 4; obtain ⟨al, am, eo27⟩ := Kd.R_slice HO_5.out; subst eo27))
         have n0_ : Aside0 (Kd.R k26 26 (((((w25.setCell ⟨aa, 0, none⟩ (.int .u32 ((rd_T26 l0 x16_1).f0.f0))).setCell ⟨aa, 1, none⟩ (.int .i64 ((rd_T26 l0 x16_1).f0.f1))).setCell ⟨aa, 2, none⟩ (.int .i64 ((rd_T26 l0 x16_1).f1))).setCell ⟨aa, 3, none⟩ (.int .i64 ((rd_T26 l0 x16_1).f2))).setCell ⟨aa, 4, none⟩ (.bool ((rd_T26 l0 x16_1).f3))) w.heap.size (fun k_ => k_ ≠ aa) (.slice al x5_1.length am) x5_1) := ⟨by (with_reducible repeat (first | apply Kd.R_alloc | apply Kd.R_drewN | apply Kd.R_drew)); exact Kd.R_mono (Kd.R_far (p := ⟨aa, 4, none⟩) (Kd.R_far (p := ⟨aa, 3, none⟩) (Kd.R_far (p := ⟨aa, 2, none⟩) (Kd.R_far (p := ⟨aa, 1, none⟩) (Kd.R_far (p := ⟨aa, 0, none⟩) (Kd.R_mono HO_5.out (fun k_ hk => (⟨hk, hk.2⟩ : _ ∧ k_ ≠ aa))) (fun _ hk => hk.2) (.int .u32 ((rd_T26 l0 x16_1).f0.f0))) (fun _ hk => hk.2) (.int .i64 ((rd_T26 l0 x16_1).f0.f1))) (fun _ hk => hk.2) (.int .i64 ((rd_T26 l0 x16_1).f1))) (fun _ hk => hk.2) (.int .i64 ((rd_T26 l0 x16_1).f2))) (fun _ hk => hk.2) (.bool ((rd_T26 l0 x16_1).f3))) (fun _ hk => hk.1.2)⟩
         have n1_ : Aside0 ((((((w25.setCell ⟨aa, 0, none⟩ (.int .u32 ((rd_T26 l0 x16_1).f0.f0))).setCell ⟨aa, 1, none⟩ (.int .i64 ((rd_T26 l0 x16_1).f0.f1))).setCell ⟨aa, 2, none⟩ (.int .i64 ((rd_T26 l0 x16_1).f1))).setCell ⟨aa, 3, none⟩ (.int .i64 ((rd_T26 l0 x16_1).f2))).setCell ⟨aa, 4, none⟩ (.bool ((rd_T26 l0 x16_1).f3))).heap[aa]? = some (.cells #[.int .u32 ((rd_T26 l0 x16_1).f0.f0), .int .i64 ((rd_T26 l0 x16_1).f0.f1), .int .i64 ((rd_T26 l0 x16_1).f1), .int .i64 ((rd_T26 l0 x16_1).f2), .bool ((rd_T26 l0 x16_1).f3)] 26 (0, 0))) := ⟨by (with_reducible repeat (first | refine blk_drewN ?_ _ | refine blk_drew ?_ | refine blk_alloc ?_ _)); refine blk_put (cs := #[.int .u32 ((rd_T26 l0 x16_1).f0.f0), .int .i64 ((rd_T26 l0 x16_1).f0.f1), .int .i64 ((rd_T26 l0 x16_1).f1), .int .i64 ((rd_T26 l0 x16_1).f2), .bool false]) ?_ 4 _ (by first | rfl | (simp; done) | (simp; omega)); (with_reducible repeat (first | refine blk_drewN ?_ _ | refine blk_drew ?_ | refine blk_alloc ?_ _)); refine blk_put (cs := #[.int .u32 ((rd_T26 l0 x16_1).f0.f0), .int .i64 ((rd_T26 l0 x16_1).f0.f1), .int .i64 ((rd_T26 l0 x16_1).f1), .int .i64 0, .bool false]) ?_ 3 _ (by first | rfl | (simp; done) | (simp; omega)); (with_reducible repeat (first | refine blk_drewN ?_ _ | refine blk_drew ?_ | refine blk_alloc ?_ _)); refine blk_put (cs := #[.int .u32 ((rd_T26 l0 x16_1).f0.f0), .int .i64 ((rd_T26 l0 x16_1).f0.f1), .int .i64 0, .int .i64 0, .bool false]) ?_ 2 _ (by first | rfl | (simp; done) | (simp; omega)); (with_reducible repeat (first | refine blk_drewN ?_ _ | refine blk_drew ?_ | refine blk_alloc ?_ _)); refine blk_put (cs := #[.int .u32 ((rd_T26 l0 x16_1).f0.f0), .int .i64 0, .int .i64 0, .int .i64 0, .bool false]) ?_ 1 _ (by first | rfl | (simp; done) | (simp; omega)); (with_reducible repeat (first | refine blk_drewN ?_ _ | refine blk_drew ?_ | refine blk_alloc ?_ _)); refine blk_put (cs := #[.int .u32 0, .int .i64 0, .int .i64 0, .int .i64 0, .bool false]) ?_ 0 _ (by first | rfl | (simp; done) | (simp; omega)); (with_reducible repeat (first | refine blk_drewN ?_ _ | refine blk_drew ?_ | refine blk_alloc ?_ _)); exact ab.out⟩
         have n2_ : Aside0 (Below w.heap.size w (((((w25.setCell ⟨aa, 0, none⟩ (.int .u32 ((rd_T26 l0 x16_1).f0.f0))).setCell ⟨aa, 1, none⟩ (.int .i64 ((rd_T26 l0 x16_1).f0.f1))).setCell ⟨aa, 2, none⟩ (.int .i64 ((rd_T26 l0 x16_1).f1))).setCell ⟨aa, 3, none⟩ (.int .i64 ((rd_T26 l0 x16_1).f2))).setCell ⟨aa, 4, none⟩ (.bool ((rd_T26 l0 x16_1).f3)))) := ⟨by repeat (first | (with_reducible first | exact HB.out | apply below_alloc | apply pw_below_drewN | apply below_drew1 | refine below_set ?_ ac.out) | exact HB.out)⟩
         (try clear HO_5)
         (try clear ab)
         (try clear HB)
         generalize (((((w25.setCell ⟨aa, 0, none⟩ (.int .u32 ((rd_T26 l0 x16_1).f0.f0))).setCell ⟨aa, 1, none⟩ (.int .i64 ((rd_T26 l0 x16_1).f0.f1))).setCell ⟨aa, 2, none⟩ (.int .i64 ((rd_T26 l0 x16_1).f1))).setCell ⟨aa, 3, none⟩ (.int .i64 ((rd_T26 l0 x16_1).f2))).setCell ⟨aa, 4, none⟩ (.bool ((rd_T26 l0 x16_1).f3))) = w28 at n0_ n1_ n2_ ⊢
         have HO_5 := n0_
         have ab := n1_
         have HB := n2_
         clear n0_ n1_ n2_
         replace HO_5 := Aside0.mk (Kd.R_drew HO_5.out)
         replace ab := Aside0.mk (blk_drew ab.out)
         replace HB := Aside0.mk (below_drew1 HB.out)
         refine start_ (n := 6) (S := fun w' => w'.cell? ⟨aa, 0, none⟩ = some (.int .u32 ((rd_T26 l0 x16_1).f0.f0)) ∧ w'.cell? ⟨aa, 1, none⟩ = some (.int .i64 ((rd_T26 l0 x16_1).f0.f1)) ∧ w'.cell? ⟨aa, 2, none⟩ = some (.int .i64 ((rd_T26 l0 x16_1).f1)) ∧ w'.cell? ⟨aa, 3, none⟩ = some (.int .i64 ((rd_T26 l0 x16_1).f2)) ∧ w'.cell? ⟨aa, 4, none⟩ = some (.bool ((rd_T26 l0 x16_1).f3))) (ds := []) #[false, false, false, false, false, false] (by kernel_rfl) rfl rfl (k24d0.b5e ab.out) (fun hHeld => ?_)
         generalize w28.drew = w29 at HO_5 ab HB hHeld ⊢
         refine pure_ (i := 0) (N := some 20) (v := ?_) (a' := ?_) #[true, false, false, false, false, false] rfl rfl (by kernel_rfl) (fun _ _ _ h => h) (Or.inl ⟨by rfl, ?_⟩) ?_ ?_
         rotate_left
         ·intro w'
          go_simp
          with_reducible rfl
         rotate_left
         ·simp only [Act.put, List.setIfInBounds_toArray, List.set_cons_zero, List.set_cons_succ, i64_w]
          rfl
         refine take_ (i := 2) (N := some 22) (v := ?_) (a' := ?_) #[true, false, true, false, false, false] rfl rfl (by kernel_rfl) (fun _ _ _ h => h) (Or.inl ⟨by rfl, ?_⟩) hHeld ?_ ?_
         rotate_left
         ·rintro w' ⟨s0, s1, s2, s3, s4⟩
          go_simp
          with_reducible rfl
         rotate_left
         ·simp only [Act.put, List.setIfInBounds_toArray, List.set_cons_zero, List.set_cons_succ, i64_w]
          rfl
         refine join_ (σ := Value × Value) 2 #[true, true, true, true, false, false] (fun s_ => [(21, s_.1), (23, s_.2)]) (fun s_ w' => (w'.cell? ⟨aa, 0, none⟩ = some (.int .u32 ((rd_T26 l0 x16_1).f0.f0)) ∧ w'.cell? ⟨aa, 1, none⟩ = some (.int .i64 ((rd_T26 l0 x16_1).f0.f1)) ∧ w'.cell? ⟨aa, 2, none⟩ = some (.int .i64 ((rd_T26 l0 x16_1).f1)) ∧ w'.cell? ⟨aa, 3, none⟩ = some (.int .i64 ((rd_T26 l0 x16_1).f2)) ∧ w'.cell? ⟨aa, 4, none⟩ = some (.bool ((rd_T26 l0 x16_1).f3))) ∧ (Kd.R k26 26 w' w.heap.size (fun k_ => some k_ ≠ (s_.2 : Value).ownBlock ∧ some k_ ≠ (.slice al x5_1.length am : Value).ownBlock ∧ k_ ≠ aa) s_.1 t303) ∧ (Kd.R k26 26 w' w.heap.size (fun k_ => some k_ ≠ (s_.1 : Value).ownBlock ∧ some k_ ≠ (.slice al x5_1.length am : Value).ownBlock ∧ k_ ≠ aa) s_.2 ag) ∧ (Kd.R k26 26 w' w.heap.size (fun k_ => some k_ ≠ (s_.1 : Value).ownBlock ∧ some k_ ≠ (s_.2 : Value).ownBlock ∧ k_ ≠ aa) (.slice al x5_1.length am) x5_1) ∧ (w'.heap[aa]? = some (.cells #[.int .u32 ((rd_T26 l0 x16_1).f0.f0), .int .i64 ((rd_T26 l0 x16_1).f0.f1), .int .i64 ((rd_T26 l0 x16_1).f1), .int .i64 ((rd_T26 l0 x16_1).f2), .bool ((rd_T26 l0 x16_1).f3)] 26 (0, 0))) ∧ (Below w.heap.size w w')) ?_ ?_
         rotate_left
         ·intro hCont
          refine two_ (i := 1) (j := 3) (Ni := some 21) (Nj := some 23) #[true, true, true, false, false, false] #[true, false, true, true, false, false] rfl rfl rfl rfl (by kernel_rfl) (by decide) (by decide) (fun K hK => ?_) (fun K hK => ?_)
          ·skip
           refine goes_ Try.func39 (by kernel_rfl) rfl #[.slice al x5_1.length am] (by rfl) rfl rfl (by (try simp only [List.map_toArray, List.map_cons, List.map_nil]); first | done | rfl) ?_
           with_reducible refine (api_Range_39.calls _ _ x5_1 t303 _ ?side1 ?side2 A8.out).mono ?_
           (case side1 => repeat (first | exact (Kd.R_reads' HO_5.out).2.2 | (with_reducible refine Kd.C_alloc ?_ _) | (with_reducible refine Kd.C_drewN ?_ _) | (with_reducible refine Kd.C_drew ?_)))
           (case side2 => exact (Kd.R_reads' HO_5.out).2.1)
           rintro e w30 ⟨v304, rfl, ho0, hb⟩
           refine ⟨_, rfl, ?_⟩
           have n0_ := Aside0.mk (Kd.R_elder' (by (with_reducible repeat (first | apply Kd.R_alloc | apply Kd.R_drewN | apply Kd.R_drew)); exact HO_5.out) (Kd.R_base ho0) hb)
           have n1_ := Aside0.mk (Kd.R_lower (Kd.R_newB (Kd.R_new' ho0 (Kd.R_lt (by (with_reducible repeat (first | apply Kd.R_alloc | apply Kd.R_drewN | apply Kd.R_drew)); exact HO_5.out))) (g := aa) (o := .cells #[.int .u32 ((rd_T26 l0 x16_1).f0.f0), .int .i64 ((rd_T26 l0 x16_1).f0.f1), .int .i64 ((rd_T26 l0 x16_1).f1), .int .i64 ((rd_T26 l0 x16_1).f2), .bool ((rd_T26 l0 x16_1).f3)] 26 (0, 0)) (by (with_reducible repeat (first | refine blk_drewN ?_ _ | refine blk_drew ?_ | refine blk_alloc ?_ _)); exact ab.out)) (below_size (by repeat (first | (with_reducible first | exact HB.out | apply below_alloc | apply pw_below_drewN | apply below_drew1 | refine below_set ?_ ac.out) | exact HB.out))))
           have n2_ := Aside0.mk (blk_below (g := aa) (by (with_reducible repeat (first | refine blk_drewN ?_ _ | refine blk_drew ?_ | refine blk_alloc ?_ _)); exact ab.out) hb)
           have n3_ := Aside0.mk (below_step (by repeat (first | (with_reducible first | exact HB.out | apply below_alloc | apply pw_below_drewN | apply below_drew1 | refine below_set ?_ ac.out) | exact HB.out)) hb)
           clear HO_5
           clear ab
           clear HB
           have HO_5 := n0_
           have ae := n1_
           have ab := n2_
           have HB := n3_
           clear n0_ n1_ n2_ n3_
           (try clear hb)
           (try clear hb2)
           (try clear hk)
           (try clear hi)
           (try clear ho0)
           refine hK.out _ _ (k24d0.b5e ab.out) (fun hHeld => ?_)
           clear hK K
           refine norm_ (a' := ?_) ?_ ?_
           rotate_left
           ·show Act.put _ (some 21) _ = _
            simp only [Act.put, List.setIfInBounds_toArray, List.set_cons_zero, List.set_cons_succ, i64_w]
            rfl
           refine one_ (i := 3) (N := some 23) #[true, true, true, true, false, false] rfl rfl (by kernel_rfl) (by decide) (fun K hK => ?_)
           refine Kd.R_lit_step k26 _ 26 ?hg (N := 23) ?hd (xs := ([(⟨(⟨(rd_T26 l0 x16_1).f0.f0, (rd_T26 l0 x16_1).f0.f1⟩ : S24), (rd_T26 l0 x16_1).f1, (rd_T26 l0 x16_1).f2, (rd_T26 l0 x16_1).f3⟩ : S26)] : List (S26))) (inner := [.int .u32 ((rd_T26 l0 x16_1).f0.f0), .int .i64 ((rd_T26 l0 x16_1).f0.f1), .int .i64 ((rd_T26 l0 x16_1).f1), .int .i64 ((rd_T26 l0 x16_1).f2), .bool ((rd_T26 l0 x16_1).f3)]) (ok := fun _ => True) (okp := fun _ => True) ?hr ?hp (fun _ hk => hk) trivial (Below.refl _ _) (Nat.le_refl _) (by simp) ?_; (case hd => rfl); (case hg => rfl); (case hr => first | (go_simp; done) | (go_simp; rfl)); (case hp => exact (Reps.c5 (show Kd.M k26 _ _ _ (⟨(⟨(rd_T26 l0 x16_1).f0.f0, (rd_T26 l0 x16_1).f0.f1⟩ : S24), (rd_T26 l0 x16_1).f1, (rd_T26 l0 x16_1).f2, (rd_T26 l0 x16_1).f3⟩ : S26) [.int .u32 ((rd_T26 l0 x16_1).f0.f0), .int .i64 ((rd_T26 l0 x16_1).f0.f1), .int .i64 ((rd_T26 l0 x16_1).f1), .int .i64 ((rd_T26 l0 x16_1).f2), .bool ((rd_T26 l0 x16_1).f3)] from (k26_mkM _ _ _ (⟨(⟨(rd_T26 l0 x16_1).f0.f0, (rd_T26 l0 x16_1).f0.f1⟩ : S24), (rd_T26 l0 x16_1).f1, (rd_T26 l0 x16_1).f2, (rd_T26 l0 x16_1).f3⟩ : S26) )) (Reps.none _ _)))
           intro v307 w31 ho32 hb hg_ hnew_
           clear hg_ hnew_
           (first | rw [← ah.out] at ho32 | (simp only [Int.reduceToNat] at ho32; rw [← ah.out] at ho32))
           have n0_ := Aside0.mk (Kd.R_elder' (by (with_reducible repeat (first | apply Kd.R_alloc | apply Kd.R_drewN | apply Kd.R_drew)); exact HO_5.out) (Kd.R_base ho32) hb)
           have n1_ := Aside0.mk (Kd.R_elder' (by (with_reducible repeat (first | apply Kd.R_alloc | apply Kd.R_drewN | apply Kd.R_drew)); exact ae.out) (Kd.R_base ho32) hb)
           have n2_ := Aside0.mk (Kd.R_lower (Kd.R_newB (Kd.R_new' (Kd.R_new' ho32 (Kd.R_lt (by (with_reducible repeat (first | apply Kd.R_alloc | apply Kd.R_drewN | apply Kd.R_drew)); exact HO_5.out))) (Kd.R_lt (by (with_reducible repeat (first | apply Kd.R_alloc | apply Kd.R_drewN | apply Kd.R_drew)); exact ae.out))) (g := aa) (o := .cells #[.int .u32 ((rd_T26 l0 x16_1).f0.f0), .int .i64 ((rd_T26 l0 x16_1).f0.f1), .int .i64 ((rd_T26 l0 x16_1).f1), .int .i64 ((rd_T26 l0 x16_1).f2), .bool ((rd_T26 l0 x16_1).f3)] 26 (0, 0)) (by (with_reducible repeat (first | refine blk_drewN ?_ _ | refine blk_drew ?_ | refine blk_alloc ?_ _)); exact ab.out)) (below_size (by repeat (first | (with_reducible first | exact HB.out | apply below_alloc | apply pw_below_drewN | apply below_drew1 | refine below_set ?_ ac.out) | exact HB.out))))
           have n3_ := Aside0.mk (blk_below (g := aa) (by (with_reducible repeat (first | refine blk_drewN ?_ _ | refine blk_drew ?_ | refine blk_alloc ?_ _)); exact ab.out) hb)
           have n4_ := Aside0.mk (below_step (by repeat (first | (with_reducible first | exact HB.out | apply below_alloc | apply pw_below_drewN | apply below_drew1 | refine below_set ?_ ac.out) | exact HB.out)) hb)
           clear HO_5
           clear ae
           clear ab
           clear HB
           have HO_5 := n0_
           have ae := n1_
           have ad := n2_
           have ab := n3_
           have HB := n4_
           clear n0_ n1_ n2_ n3_ n4_
           clear hb ho32
           refine hK.out _ _ (k24d0.b5e ab.out) (fun hHeld => ?_)
           clear hK K
           refine norm_ (a' := ?_) ?_ ?_
           rotate_left
           ·show Act.put _ (some 23) _ = _
            simp only [Act.put, List.setIfInBounds_toArray, List.set_cons_zero, List.set_cons_succ, i64_w]
            rfl
           exact norm_ (by simp only [putAll, Act.put, List.setIfInBounds_toArray, List.set_cons_zero, List.set_cons_succ]) (hCont (v304, v307) _ ⟨hHeld, (by (with_reducible repeat (first | apply Kd.R_alloc | apply Kd.R_drewN | apply Kd.R_drew)); exact Kd.R_mono ae.out (fun _ hk => ⟨hk.2, ⟨hk.1.1.2, hk.1.2⟩⟩)), (by (with_reducible repeat (first | apply Kd.R_alloc | apply Kd.R_drewN | apply Kd.R_drew)); exact Kd.R_mono ad.out (fun _ hk => ⟨hk.1.2, ⟨hk.1.1.2, hk.2⟩⟩)), (by (with_reducible repeat (first | apply Kd.R_alloc | apply Kd.R_drewN | apply Kd.R_drew)); exact Kd.R_mono HO_5.out (fun _ hk => ⟨hk.1.2, ⟨hk.2, hk.1.1⟩⟩)), (by (with_reducible repeat (first | refine blk_drewN ?_ _ | refine blk_drew ?_ | refine blk_alloc ?_ _)); exact ab.out), (by repeat (first | (with_reducible first | exact HB.out | apply below_alloc | apply pw_below_drewN | apply below_drew1 | refine below_set ?_ ac.out) | exact HB.out))⟩)
          ·skip
           refine Kd.R_lit_step k26 _ 26 ?hg (N := 23) ?hd (xs := ([(⟨(⟨(rd_T26 l0 x16_1).f0.f0, (rd_T26 l0 x16_1).f0.f1⟩ : S24), (rd_T26 l0 x16_1).f1, (rd_T26 l0 x16_1).f2, (rd_T26 l0 x16_1).f3⟩ : S26)] : List (S26))) (inner := [.int .u32 ((rd_T26 l0 x16_1).f0.f0), .int .i64 ((rd_T26 l0 x16_1).f0.f1), .int .i64 ((rd_T26 l0 x16_1).f1), .int .i64 ((rd_T26 l0 x16_1).f2), .bool ((rd_T26 l0 x16_1).f3)]) (ok := fun _ => True) (okp := fun _ => True) ?hr ?hp (fun _ hk => hk) trivial (Below.refl _ _) (Nat.le_refl _) (by simp) ?_; (case hd => rfl); (case hg => rfl); (case hr => first | (go_simp; done) | (go_simp; rfl)); (case hp => exact (Reps.c5 (show Kd.M k26 _ _ _ (⟨(⟨(rd_T26 l0 x16_1).f0.f0, (rd_T26 l0 x16_1).f0.f1⟩ : S24), (rd_T26 l0 x16_1).f1, (rd_T26 l0 x16_1).f2, (rd_T26 l0 x16_1).f3⟩ : S26) [.int .u32 ((rd_T26 l0 x16_1).f0.f0), .int .i64 ((rd_T26 l0 x16_1).f0.f1), .int .i64 ((rd_T26 l0 x16_1).f1), .int .i64 ((rd_T26 l0 x16_1).f2), .bool ((rd_T26 l0 x16_1).f3)] from (k26_mkM _ _ _ (⟨(⟨(rd_T26 l0 x16_1).f0.f0, (rd_T26 l0 x16_1).f0.f1⟩ : S24), (rd_T26 l0 x16_1).f1, (rd_T26 l0 x16_1).f2, (rd_T26 l0 x16_1).f3⟩ : S26) )) (Reps.none _ _)))
           intro v307 w30 ho31 hb hg_ hnew_
           clear hg_ hnew_
           (first | rw [← ah.out] at ho31 | (simp only [Int.reduceToNat] at ho31; rw [← ah.out] at ho31))
           have n0_ := Aside0.mk (Kd.R_elder' (by (with_reducible repeat (first | apply Kd.R_alloc | apply Kd.R_drewN | apply Kd.R_drew)); exact HO_5.out) (Kd.R_base ho31) hb)
           have n1_ := Aside0.mk (Kd.R_lower (Kd.R_newB (Kd.R_new' ho31 (Kd.R_lt (by (with_reducible repeat (first | apply Kd.R_alloc | apply Kd.R_drewN | apply Kd.R_drew)); exact HO_5.out))) (g := aa) (o := .cells #[.int .u32 ((rd_T26 l0 x16_1).f0.f0), .int .i64 ((rd_T26 l0 x16_1).f0.f1), .int .i64 ((rd_T26 l0 x16_1).f1), .int .i64 ((rd_T26 l0 x16_1).f2), .bool ((rd_T26 l0 x16_1).f3)] 26 (0, 0)) (by (with_reducible repeat (first | refine blk_drewN ?_ _ | refine blk_drew ?_ | refine blk_alloc ?_ _)); exact ab.out)) (below_size (by repeat (first | (with_reducible first | exact HB.out | apply below_alloc | apply pw_below_drewN | apply below_drew1 | refine below_set ?_ ac.out) | exact HB.out))))
           have n2_ := Aside0.mk (blk_below (g := aa) (by (with_reducible repeat (first | refine blk_drewN ?_ _ | refine blk_drew ?_ | refine blk_alloc ?_ _)); exact ab.out) hb)
           have n3_ := Aside0.mk (below_step (by repeat (first | (with_reducible first | exact HB.out | apply below_alloc | apply pw_below_drewN | apply below_drew1 | refine below_set ?_ ac.out) | exact HB.out)) hb)
           clear HO_5
           clear ab
           clear HB
           have HO_5 := n0_
           have ad := n1_
           have ab := n2_
           have HB := n3_
           clear n0_ n1_ n2_ n3_
           clear hb ho31
           refine hK.out _ _ (k24d0.b5e ab.out) (fun hHeld => ?_)
           clear hK K
           refine norm_ (a' := ?_) ?_ ?_
           rotate_left
           ·show Act.put _ (some 23) _ = _
            simp only [Act.put, List.setIfInBounds_toArray, List.set_cons_zero, List.set_cons_succ, i64_w]
            rfl
           refine one_ (i := 1) (N := some 21) #[true, true, true, true, false, false] rfl rfl (by kernel_rfl) (by decide) (fun K hK => ?_)
           refine goes_ Try.func39 (by kernel_rfl) rfl #[.slice al x5_1.length am] (by rfl) rfl rfl (by (try simp only [List.map_toArray, List.map_cons, List.map_nil]); first | done | rfl) ?_
           with_reducible refine (api_Range_39.calls _ _ x5_1 t303 _ ?side1 ?side2 A8.out).mono ?_
           (case side1 => repeat (first | exact (Kd.R_reads' HO_5.out).2.2 | (with_reducible refine Kd.C_alloc ?_ _) | (with_reducible refine Kd.C_drewN ?_ _) | (with_reducible refine Kd.C_drew ?_)))
           (case side2 => exact (Kd.R_reads' HO_5.out).2.1)
           rintro e w32 ⟨v304, rfl, ho0, hb⟩
           refine ⟨_, rfl, ?_⟩
           have n0_ := Aside0.mk (Kd.R_elder' (by (with_reducible repeat (first | apply Kd.R_alloc | apply Kd.R_drewN | apply Kd.R_drew)); exact HO_5.out) (Kd.R_base ho0) hb)
           have n1_ := Aside0.mk (Kd.R_elder' (by (with_reducible repeat (first | apply Kd.R_alloc | apply Kd.R_drewN | apply Kd.R_drew)); exact ad.out) (Kd.R_base ho0) hb)
           have n2_ := Aside0.mk (Kd.R_lower (Kd.R_newB (Kd.R_new' (Kd.R_new' ho0 (Kd.R_lt (by (with_reducible repeat (first | apply Kd.R_alloc | apply Kd.R_drewN | apply Kd.R_drew)); exact HO_5.out))) (Kd.R_lt (by (with_reducible repeat (first | apply Kd.R_alloc | apply Kd.R_drewN | apply Kd.R_drew)); exact ad.out))) (g := aa) (o := .cells #[.int .u32 ((rd_T26 l0 x16_1).f0.f0), .int .i64 ((rd_T26 l0 x16_1).f0.f1), .int .i64 ((rd_T26 l0 x16_1).f1), .int .i64 ((rd_T26 l0 x16_1).f2), .bool ((rd_T26 l0 x16_1).f3)] 26 (0, 0)) (by (with_reducible repeat (first | refine blk_drewN ?_ _ | refine blk_drew ?_ | refine blk_alloc ?_ _)); exact ab.out)) (below_size (by repeat (first | (with_reducible first | exact HB.out | apply below_alloc | apply pw_below_drewN | apply below_drew1 | refine below_set ?_ ac.out) | exact HB.out))))
           have n3_ := Aside0.mk (blk_below (g := aa) (by (with_reducible repeat (first | refine blk_drewN ?_ _ | refine blk_drew ?_ | refine blk_alloc ?_ _)); exact ab.out) hb)
           have n4_ := Aside0.mk (below_step (by repeat (first | (with_reducible first | exact HB.out | apply below_alloc | apply pw_below_drewN | apply below_drew1 | refine below_set ?_ ac.out) | exact HB.out)) hb)
           clear HO_5
           clear ad
           clear ab
           clear HB
           have HO_5 := n0_
           have ad := n1_
           have ae := n2_
           have ab := n3_
           have HB := n4_
           clear n0_ n1_ n2_ n3_ n4_
           (try clear hb)
           (try clear hb2)
           (try clear hk)
           (try clear hi)
           (try clear ho0)
           refine hK.out _ _ (k24d0.b5e ab.out) (fun hHeld => ?_)
           clear hK K
           refine norm_ (a' := ?_) ?_ ?_
           rotate_left
           ·show Act.put _ (some 21) _ = _
            simp only [Act.put, List.setIfInBounds_toArray, List.set_cons_zero, List.set_cons_succ, i64_w]
            rfl
           exact norm_ (by simp only [putAll, Act.put, List.setIfInBounds_toArray, List.set_cons_zero, List.set_cons_succ]) (hCont (v304, v307) _ ⟨hHeld, (by (with_reducible repeat (first | apply Kd.R_alloc | apply Kd.R_drewN | apply Kd.R_drew)); exact Kd.R_mono ae.out (fun _ hk => ⟨hk.1.2, ⟨hk.1.1.2, hk.2⟩⟩)), (by (with_reducible repeat (first | apply Kd.R_alloc | apply Kd.R_drewN | apply Kd.R_drew)); exact Kd.R_mono ad.out (fun _ hk => ⟨hk.2, ⟨hk.1.1.2, hk.1.2⟩⟩)), (by (with_reducible repeat (first | apply Kd.R_alloc | apply Kd.R_drewN | apply Kd.R_drew)); exact Kd.R_mono HO_5.out (fun _ hk => ⟨hk.2, ⟨hk.1.2, hk.1.1⟩⟩)), (by (with_reducible repeat (first | refine blk_drewN ?_ _ | refine blk_drew ?_ | refine blk_alloc ?_ _)); exact ab.out), (by repeat (first | (with_reducible first | exact HB.out | apply below_alloc | apply pw_below_drewN | apply below_drew1 | refine below_set ?_ ac.out) | exact HB.out))⟩)
         rintro ⟨v304, v307⟩ w33 ⟨hS_, h0_, h1_, h2_, h3_, h4_⟩
         have n0_ : Aside0 (Kd.R k26 26 w33 w.heap.size (fun k_ => some k_ ≠ (v307 : Value).ownBlock ∧ some k_ ≠ (.slice al x5_1.length am : Value).ownBlock ∧ k_ ≠ aa) v304 t303) := ⟨h0_⟩
         have n1_ : Aside0 (Kd.R k26 26 w33 w.heap.size (fun k_ => some k_ ≠ (v304 : Value).ownBlock ∧ some k_ ≠ (.slice al x5_1.length am : Value).ownBlock ∧ k_ ≠ aa) v307 ag) := ⟨h1_⟩
         have n2_ : Aside0 (Kd.R k26 26 w33 w.heap.size (fun k_ => some k_ ≠ (v304 : Value).ownBlock ∧ some k_ ≠ (v307 : Value).ownBlock ∧ k_ ≠ aa) (.slice al x5_1.length am) x5_1) := ⟨h2_⟩
         have n3_ : Aside0 (w33.heap[aa]? = some (.cells #[.int .u32 ((rd_T26 l0 x16_1).f0.f0), .int .i64 ((rd_T26 l0 x16_1).f0.f1), .int .i64 ((rd_T26 l0 x16_1).f1), .int .i64 ((rd_T26 l0 x16_1).f2), .bool ((rd_T26 l0 x16_1).f3)] 26 (0, 0))) := ⟨h3_⟩
         have n4_ : Aside0 (Below w.heap.size w w33) := ⟨h4_⟩
         clear HO_5
         clear ab
         clear HB
         clear h0_ h1_ h2_ h3_ h4_
         have ae := n0_
         have ad := n1_
         have HO_5 := n2_
         have ab := n3_
         have HB := n4_
         clear n0_ n1_ n2_ n3_ n4_
         have hHeld : w33.cell? ⟨aa, 0, none⟩ = some (.int .u32 ((rd_T26 l0 x16_1).f0.f0)) ∧ w33.cell? ⟨aa, 1, none⟩ = some (.int .i64 ((rd_T26 l0 x16_1).f0.f1)) ∧ w33.cell? ⟨aa, 2, none⟩ = some (.int .i64 ((rd_T26 l0 x16_1).f1)) ∧ w33.cell? ⟨aa, 3, none⟩ = some (.int .i64 ((rd_T26 l0 x16_1).f2)) ∧ w33.cell? ⟨aa, 4, none⟩ = some (.bool ((rd_T26 l0 x16_1).f3)) := hS_
         obtain ⟨Ao35, co35, eo35⟩ := Kd.R_slice ad.out
         (first | subst eo35 | (injection eo35 with f1_ f2_ f3_; have f4_ := f1_.symm; have f5_ := f3_.symm; clear f1_ f2_ f3_; subst f4_; subst f5_))
         refine norm_ (a' := ?_) ?_ ?_
         rotate_left
         ·simp only [putAll, Act.put, List.setIfInBounds_toArray, List.set_cons_zero, List.set_cons_succ]
          rfl
         refine one_ (i := 4) (N := some 24) #[true, true, true, true, true, false] rfl rfl (by kernel_rfl) (by decide) (fun K hK => ?_)
         refine Kd.R_append_rows_step k26 (w0 := w) w.heap.size (by rfl) (.tmp 21) (.tmp 23) 31 26 (.agg #[(.int .u32 0), (.int .i64 0), (.int .i64 0), (.int .i64 0), (.bool false)]) 40 rfl Try.underlying31 info26 rfl (by decide) (by omega) v304 t303 ag _ _ _ (fun k_ => some k_ ≠ (.slice al x5_1.length am : Value).ownBlock ∧ some k_ ≠ (.slice Ao35 ag.length co35 : Value).ownBlock ∧ k_ ≠ aa) (fun _ => False) rfl rfl ?aO ?aR (fun _ _ h => h) (fun _ h => h.elim) ?aF ?aB ?aS ?aL ?_
         (case aR => repeat (first | exact (Kd.R_reads' ad.out).2.2 | (with_reducible refine Kd.C_alloc ?_ _) | (with_reducible refine Kd.C_drewN ?_ _) | (with_reducible refine Kd.C_drew ?_)))
         (case aB => exact (by repeat (first | (with_reducible first | exact HB.out | apply below_alloc | apply pw_below_drewN | apply below_drew1 | refine below_set ?_ ac.out) | exact HB.out)))
         (case aF => exact (fun k_ hk => ⟨Kd.fresh' (Kd.R_lt (by (with_reducible repeat (first | apply Kd.R_alloc | apply Kd.R_drewN | apply Kd.R_drew)); exact HO_5.out)) k_ hk, Kd.fresh' (Kd.R_lt (by (with_reducible repeat (first | apply Kd.R_alloc | apply Kd.R_drewN | apply Kd.R_drew)); exact ad.out)) k_ hk, Kd.freshB (g := aa) (o := .cells #[.int .u32 ((rd_T26 l0 x16_1).f0.f0), .int .i64 ((rd_T26 l0 x16_1).f0.f1), .int .i64 ((rd_T26 l0 x16_1).f1), .int .i64 ((rd_T26 l0 x16_1).f2), .bool ((rd_T26 l0 x16_1).f3)] 26 (0, 0)) (by (with_reducible repeat (first | refine blk_drewN ?_ _ | refine blk_drew ?_ | refine blk_alloc ?_ _)); exact ab.out) k_ hk⟩))
         (case aO => exact (by (with_reducible repeat (first | apply Kd.R_alloc | apply Kd.R_drewN | apply Kd.R_drew)); exact Kd.R_mono ae.out (fun _ hk => ⟨hk.2.1, ⟨hk.1, hk.2.2⟩⟩)))
         (case aS => exact (below_size (by repeat (first | (with_reducible first | exact HB.out | apply below_alloc | apply pw_below_drewN | apply below_drew1 | refine below_set ?_ ac.out) | exact HB.out))))
         (case aL => have := LMc9.out; omega)
         intro v310 w34 ho hb hg hat
         rw [← Ny309.out] at ho
         replace HO_5 := Aside0.mk (Kd.R_after (ok := (fun k_ => some k_ ≠ (.slice Ao35 ag.length co35 : Value).ownBlock ∧ k_ ≠ aa)) (by (with_reducible repeat (first | apply Kd.R_alloc | apply Kd.R_drewN | apply Kd.R_drew)); exact Kd.R_mono HO_5.out (fun _ hk => ⟨⟨hk.2.1, hk.2.2⟩, hk.1⟩)) hg hat)
         replace ab := Aside0.mk (blk_grown (g := aa) (o := .cells #[.int .u32 ((rd_T26 l0 x16_1).f0.f0), .int .i64 ((rd_T26 l0 x16_1).f0.f1), .int .i64 ((rd_T26 l0 x16_1).f1), .int .i64 ((rd_T26 l0 x16_1).f2), .bool ((rd_T26 l0 x16_1).f3)] 26 (0, 0)) (by (with_reducible repeat (first | refine blk_drewN ?_ _ | refine blk_drew ?_ | refine blk_alloc ?_ _)); exact ab.out) hg (Kd.R_away ae.out (fun _ hk => hk.2.2)))
         replace ad := Aside0.mk (Kd.R_after (ok := (fun k_ => some k_ ≠ (.slice al x5_1.length am : Value).ownBlock ∧ k_ ≠ aa)) (by (with_reducible repeat (first | apply Kd.R_alloc | apply Kd.R_drewN | apply Kd.R_drew)); exact Kd.R_mono ad.out (fun _ hk => ⟨⟨hk.2.1, hk.2.2⟩, hk.1⟩)) hg hat)
         replace HB := Aside0.mk (hb)
         have af := Aside0.mk (ho)
         clear ae
         clear ho hb hg hat
         refine hK.out _ _ (k24d0.b5e ab.out) (fun hHeld => ?_)
         clear hK K
         refine norm_ (a' := ?_) ?_ ?_
         rotate_left
         ·show Act.put _ (some 24) _ = _
          simp only [Act.put, List.setIfInBounds_toArray, List.set_cons_zero, List.set_cons_succ, i64_w]
          rfl
         refine pure_ (i := 5) (N := some 8) (v := ?_) (a' := ?_) #[true, true, true, true, true, true] rfl rfl (by kernel_rfl) (fun _ _ _ h => h) (Or.inl ⟨by rfl, ?_⟩) ?_ ?_
         rotate_left
         ·intro w'
          go_simp
          with_reducible rfl
         rotate_left
         ·simp only [Act.put, List.setIfInBounds_toArray, List.set_cons_zero, List.set_cons_succ, i64_w]
          rfl
         refine done_ (by kernel_rfl) ?_
         obtain ⟨Ao36, co36, eo36⟩ := Kd.R_slice af.out
         subst eo36
         try go_wp2_with (first | ((with_reducible refine gate_callee (f := 37) rfl ?_); refine goesL_ (some 26) rfl rfl Try.func37 (by kernel_rfl) rfl #[.slice Ao36 ai.length co36] rfl (by (try simp only [List.map_toArray, List.map_cons, List.map_nil]); first | done | rfl) ?_; (with_reducible refine (plist_idle.calls k1 _ _ ai false _ ?side1 ?side2 A10.out).mono ?_); (case side1 => repeat (first | exact (Kd.R_reads' af.out).2.2 | (with_reducible refine Kd.C_alloc ?_ _) | (with_reducible refine Kd.C_drewN ?_ _) | (with_reducible refine Kd.C_drew ?_))); (case side2 => exact (Kd.R_reads' af.out).2.1); rintro e w37 ⟨rfl, hb⟩; refine ⟨_, rfl, ?_⟩; replace HO_5 := Aside0.mk (Kd.R_below (by (with_reducible repeat (first | apply Kd.R_alloc | apply Kd.R_drewN | apply Kd.R_drew)); exact HO_5.out) hb); replace ad := Aside0.mk (Kd.R_below (by (with_reducible repeat (first | apply Kd.R_alloc | apply Kd.R_drewN | apply Kd.R_drew)); exact ad.out) hb); replace af := Aside0.mk (Kd.R_below (by (with_reducible repeat (first | apply Kd.R_alloc | apply Kd.R_drewN | apply Kd.R_drew)); exact af.out) hb); replace ab := Aside0.mk (blk_below (g := aa) (by (with_reducible repeat (first | refine blk_drewN ?_ _ | refine blk_drew ?_ | refine blk_alloc ?_ _)); exact ab.out) hb); replace HB := Aside0.mk (below_step (by repeat (first | (with_reducible first | exact HB.out | apply below_alloc | apply pw_below_drewN | apply below_drew1 | refine below_set ?_ ac.out) | exact HB.out)) hb); (try clear hb); (try clear hb2); (try clear hk); (try clear hi)))
         go_roundg k1
         case measure => have := HK1.out; omega
         case rel => exact ⟨(ai), (wrap64 (x16_1 + 1)), (by first | rfl | (simp; done) | (simp [*]; done)), H', ⟨by have := HK1.out; omega⟩, ⟨by (with_reducible repeat (first | apply Kd.R_alloc | apply Kd.R_drewN | apply Kd.R_drew)); exact Kd.R_mono af.out (fun _ hk => trivial)⟩, ⟨by repeat (first | (with_reducible first | exact HB.out | apply below_alloc | apply pw_below_drewN | apply below_drew1 | refine below_set ?_ ac.out) | exact HB.out)⟩⟩
       ·rw [if_neg c9] at H
        exact absurd H (by simp)
      ·rw [if_neg c7] at H
       exact absurd H (by simp)
     ·rw [if_neg c6] at H
      exact absurd H (by simp)
    ·rw [if_neg c5] at H
     have c5b0 : decide (x16_1 < (l0.length : Int)) = false := decide_eq_false c5
     clear c5
     simp only [Option.some.injEq, Prod.mk.injEq] at H
     obtain ⟨rfl, rfl⟩ := H
     go_wp2
     go_ret2
     exact ⟨_, by first | rfl | (simp [errW_none, errW_some] <;> rfl) | (simp [*, errW_none, errW_some] <;> rfl), by (with_reducible repeat (first | apply Kd.R_alloc | apply Kd.R_drewN | apply Kd.R_drew)); exact HO_5.out, by repeat (first | (with_reducible first | exact HB.out | apply below_alloc | apply pw_below_drewN | apply below_drew1) | exact HB.out)⟩
 ·rw [if_neg c3] at H
  have c3b0 : (t300 == 0) = false := beq_eq_false_iff_ne.mpr c3
  have c3b1 : (t300 != 0) = true := bne_iff_ne.mpr c3
  simp only [Option.some.injEq, Prod.mk.injEq] at H
  obtain ⟨rfl, rfl⟩ := H
  go_enter Try.func24, Try.ntmps24
  go_wp2_with (first | ((with_reducible refine gate_callee (f := 15) rfl ?_); refine goesL_ (some 10) rfl rfl Try.func15 (by kernel_rfl) rfl #[.slice A0 l0.length c0] rfl (by (try simp only [List.map_toArray, List.map_cons, List.map_nil]); first | done | rfl) ?_; (with_reducible refine (plist_May.calls k _ _ l0 t300 _ ?side1 ?side2 A2.out).mono ?_); (case side1 => repeat (first | exact HR0.out | (with_reducible refine Kd.C_alloc ?_ _) | (with_reducible refine Kd.C_drewN ?_ _) | (with_reducible refine Kd.C_drew ?_))); (case side2 => exact HC0.out); rintro e w38 ⟨rfl, hb⟩; refine ⟨_, rfl, ?_⟩; replace HB := Aside0.mk (below_step (by repeat (first | (with_reducible first | exact HB.out | apply below_alloc | apply pw_below_drewN | apply below_drew1) | exact HB.out)) hb); (try clear hb); (try clear hb2); (try clear hk); (try clear hi)))
  go_ret2
  exact ⟨_, by first | rfl | (simp [errW_none, errW_some] <;> rfl) | (simp [*, errW_none, errW_some] <;> rfl), by first | exact Kd.R_nil _ _ _ _ _ | exact Kd.N_nil _ _ _ _ _ | exact Kd.V_nil _ _ _ _ _ | exact Kd.Q_nil _ _ _ _ _ | exact Kd.S_nil _ _ _ _ _, by repeat (first | (with_reducible first | exact HB.out | apply below_alloc | apply pw_below_drewN | apply below_drew1) | exact HB.out)⟩

end Go.Proofs.Ytndcjncamdhbfaa.P

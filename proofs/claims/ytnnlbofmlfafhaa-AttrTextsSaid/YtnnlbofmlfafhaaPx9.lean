/- Printed by this session's own program (wip/tools/pr.py) out of the translation: functions of the program as plain Lean functions, and that the program's calls come to what these say. -/
import Derived.Test.YtnnlbofmlfafhaaPx0
import Derived.Test.YtnnlbofmlfafhaaPx2
import Derived.Test.YtnnlbofmlfafhaaPx3
import Derived.Test.YtnnlbofmlfafhaaPx5
import Derived.Test.YtnnlbofmlfafhaaPx7
import Derived.Test.YtnnlbofmlfafhaaPx8
namespace Go.Proofs.Ytnnlbofmlfafhaa.P
open Go.RowKit Go.Proofs.YtnnlbofmlfafhaaW.PrintWords Go.Proofs.YtnnlbofmlfafhaaW.PrintLast Go.Proofs.YtnnlbofmlfafhaaW.PrintMore
attribute [local go_sem] max2_int min2_int max_two min_two max_three min_three max_four min_four   -- for this text's walks alone
set_option linter.unusedVariables false
set_option linter.unusedSimpArgs false

/-! ### whirligiglaw09_AttrTexts: function 5 -/
mutual
def whirligiglaw09_AttrTexts.j0 : Nat → Bool → Int → Int → Int → List Int → List (S63) → Int → List Int → Int → Int → Int → List Int → List (S63) → Int → List Int → Option (Bool)
  | 0, _, _, _, _, _, _, _, _, _, _, _, _, _, _, _ => none
  | k + 1, x15, x319000, x319001, x319002, x319003, x319004, x319005, x319006, x320000, x320001, x320002, x320003, x320004, x320005, x320006 => if x15 = true then ((whirligiglaw09_lives.f k).bind fun t322 => (some t322)) else ((attr_Text.f k x319000 x319001 x319002 x319003 x319004 x319005 x319006).bind fun t323 => ((attr_Text.f k x320000 x320001 x320002 x320003 x320004 x320005 x320006).bind fun t324 => ((attr_May.f k x319000 x319001 x319002 x319003 x319004 x319005 x319006).bind fun t325 => ((whirligigref09_May.f k x319000 x319001 x319002 x319003 x319004 x319005 x319006).bind fun t326 => (if (t325 != t326) = true then (whirligiglaw09_AttrTexts.j1 k t323 t324 true x319000 x319001 x319002 x319003 x319004 x319005 x319006 x320000 x320001 x320002 x320003 x320004 x320005 x320006) else ((whirligigref09_Text.f k x319000 x319001 x319002 x319003 x319004 x319005 x319006).bind fun t327 => (if t323.toList = t327.toList then ((attr_Same.f k x319000 x319001 x319002 x319003 x319004 x319005 x319006 x320000 x320001 x320002 x320003 x320004 x320005 x320006).bind fun t328 => ((whirligigref09_Same.f k x319000 x319001 x319002 x319003 x319004 x319005 x319006 x320000 x320001 x320002 x320003 x320004 x320005 x320006).bind fun t329 => (whirligiglaw09_AttrTexts.j1 k t323 t324 (t328 != t329) x319000 x319001 x319002 x319003 x319004 x319005 x319006 x320000 x320001 x320002 x320003 x320004 x320005 x320006))) else (whirligiglaw09_AttrTexts.j1 k t323 t324 true x319000 x319001 x319002 x319003 x319004 x319005 x319006 x320000 x320001 x320002 x320003 x320004 x320005 x320006))))))))
def whirligiglaw09_AttrTexts.j1 : Nat → ByteArray → ByteArray → Bool → Int → Int → Int → List Int → List (S63) → Int → List Int → Int → Int → Int → List Int → List (S63) → Int → List Int → Option (Bool)
  | 0, _, _, _, _, _, _, _, _, _, _, _, _, _, _, _, _, _ => none
  | k + 1, x5, x6, x40, x319000, x319001, x319002, x319003, x319004, x319005, x319006, x320000, x320001, x320002, x320003, x320004, x320005, x320006 => if x40 = true then (some false) else ((whirligigref09_May.f k x319000 x319001 x319002 x319003 x319004 x319005 x319006).bind fun t330 => (if t330 = true then ((whirligigref09_May.f k x320000 x320001 x320002 x320003 x320004 x320005 x320006).bind fun t331 => (if t331 = true then ((whirligigref09_Same.f k x319000 x319001 x319002 x319003 x319004 x319005 x319006 x320000 x320001 x320002 x320003 x320004 x320005 x320006).bind fun t332 => (if ((x5.toList == x6.toList) == t332) = true then ((whirligiglaw09_lives.f k).bind fun t333 => (some t333)) else (some false))) else ((whirligiglaw09_lives.f k).bind fun t334 => (some t334)))) else ((whirligiglaw09_lives.f k).bind fun t335 => (some t335))))
end
def whirligiglaw09_AttrTexts.f (k : Nat) (a0_0 : Int) (a0_1 : Int) (a0_2 : Int) (l0_3 : List Int) (l0_4 : List (S63)) (a0_5 : Int) (l0_6 : List Int) (a1_0 : Int) (a1_1 : Int) (a1_2 : Int) (l1_3 : List Int) (l1_4 : List (S63)) (a1_5 : Int) (l1_6 : List Int) : Option (Bool) := (whirligigref09_Few.f a0_0 a0_1 a0_2 l0_3 l0_4 a0_5 l0_6).bind fun t320 => (if t320 = true then ((whirligigref09_Few.f a1_0 a1_1 a1_2 l1_3 l1_4 a1_5 l1_6).bind fun t321 => (whirligiglaw09_AttrTexts.j0 k (!t321) a0_0 a0_1 a0_2 l0_3 l0_4 a0_5 l0_6 a1_0 a1_1 a1_2 l1_3 l1_4 a1_5 l1_6)) else (whirligiglaw09_AttrTexts.j0 k true a0_0 a0_1 a0_2 l0_3 l0_4 a0_5 l0_6 a1_0 a1_1 a1_2 l1_3 l1_4 a1_5 l1_6))
theorem whirligiglaw09_AttrTexts.mono_l : ∀ k, (∀ y0 y1 y2 y3 y4 y5 y6 y7 y8 y9 y10 y11 y12 y13 y14, LeO (whirligiglaw09_AttrTexts.j0 k y0 y1 y2 y3 y4 y5 y6 y7 y8 y9 y10 y11 y12 y13 y14) (whirligiglaw09_AttrTexts.j0 (k + 1) y0 y1 y2 y3 y4 y5 y6 y7 y8 y9 y10 y11 y12 y13 y14)) ∧ (∀ y0 y1 y2 y3 y4 y5 y6 y7 y8 y9 y10 y11 y12 y13 y14 y15 y16, LeO (whirligiglaw09_AttrTexts.j1 k y0 y1 y2 y3 y4 y5 y6 y7 y8 y9 y10 y11 y12 y13 y14 y15 y16) (whirligiglaw09_AttrTexts.j1 (k + 1) y0 y1 y2 y3 y4 y5 y6 y7 y8 y9 y10 y11 y12 y13 y14 y15 y16))
  | 0 => ⟨fun _ _ _ _ _ _ _ _ _ _ _ _ _ _ _ r h => by simp [whirligiglaw09_AttrTexts.j0] at h, fun _ _ _ _ _ _ _ _ _ _ _ _ _ _ _ _ _ r h => by simp [whirligiglaw09_AttrTexts.j1] at h⟩
  | k + 1 => by
    obtain ⟨ih0, ih1⟩ := whirligiglaw09_AttrTexts.mono_l k
    refine ⟨?_, ?_⟩
    · intro y0 y1 y2 y3 y4 y5 y6 y7 y8 y9 y10 y11 y12 y13 y14
      unfold whirligiglaw09_AttrTexts.j0
      repeat' first
      | (with_reducible exact ih0 _ _ _ _ _ _ _ _ _ _ _ _ _ _ _)
      | (with_reducible exact ih1 _ _ _ _ _ _ _ _ _ _ _ _ _ _ _ _ _)
      | (with_reducible exact attr_May.mono _ _ _ _ _ _ _ _)
      | (with_reducible exact attr_Same.mono _ _ _ _ _ _ _ _ _ _ _ _ _ _ _)
      | (with_reducible exact attr_Text.mono _ _ _ _ _ _ _ _)
      | (with_reducible exact whirligiglaw09_lives.mono _)
      | (with_reducible exact whirligigref09_May.mono _ _ _ _ _ _ _ _)
      | (with_reducible exact whirligigref09_Same.mono _ _ _ _ _ _ _ _ _ _ _ _ _ _ _)
      | (with_reducible exact whirligigref09_Text.mono _ _ _ _ _ _ _ _)
      | (with_reducible exact LeO.refl _)
      | (with_reducible exact LeO.none _)
      | (with_reducible refine LeO.ite ?_ ?_)
      | (with_reducible refine LeO.bind ?_ (fun _ => ?_))
      | exact ih0 _ _ _ _ _ _ _ _ _ _ _ _ _ _ _
      | exact ih1 _ _ _ _ _ _ _ _ _ _ _ _ _ _ _ _ _
      | exact attr_May.mono _ _ _ _ _ _ _ _
      | exact attr_Same.mono _ _ _ _ _ _ _ _ _ _ _ _ _ _ _
      | exact attr_Text.mono _ _ _ _ _ _ _ _
      | exact whirligiglaw09_lives.mono _
      | exact whirligigref09_May.mono _ _ _ _ _ _ _ _
      | exact whirligigref09_Same.mono _ _ _ _ _ _ _ _ _ _ _ _ _ _ _
      | exact whirligigref09_Text.mono _ _ _ _ _ _ _ _
      | exact LeO.none _
      | refine LeO.ite ?_ ?_
      | refine LeO.bind ?_ (fun _ => ?_)
    · intro y0 y1 y2 y3 y4 y5 y6 y7 y8 y9 y10 y11 y12 y13 y14 y15 y16
      unfold whirligiglaw09_AttrTexts.j1
      repeat' first
      | (with_reducible exact ih0 _ _ _ _ _ _ _ _ _ _ _ _ _ _ _)
      | (with_reducible exact ih1 _ _ _ _ _ _ _ _ _ _ _ _ _ _ _ _ _)
      | (with_reducible exact attr_May.mono _ _ _ _ _ _ _ _)
      | (with_reducible exact attr_Same.mono _ _ _ _ _ _ _ _ _ _ _ _ _ _ _)
      | (with_reducible exact attr_Text.mono _ _ _ _ _ _ _ _)
      | (with_reducible exact whirligiglaw09_lives.mono _)
      | (with_reducible exact whirligigref09_May.mono _ _ _ _ _ _ _ _)
      | (with_reducible exact whirligigref09_Same.mono _ _ _ _ _ _ _ _ _ _ _ _ _ _ _)
      | (with_reducible exact whirligigref09_Text.mono _ _ _ _ _ _ _ _)
      | (with_reducible exact LeO.refl _)
      | (with_reducible exact LeO.none _)
      | (with_reducible refine LeO.ite ?_ ?_)
      | (with_reducible refine LeO.bind ?_ (fun _ => ?_))
      | exact ih0 _ _ _ _ _ _ _ _ _ _ _ _ _ _ _
      | exact ih1 _ _ _ _ _ _ _ _ _ _ _ _ _ _ _ _ _
      | exact attr_May.mono _ _ _ _ _ _ _ _
      | exact attr_Same.mono _ _ _ _ _ _ _ _ _ _ _ _ _ _ _
      | exact attr_Text.mono _ _ _ _ _ _ _ _
      | exact whirligiglaw09_lives.mono _
      | exact whirligigref09_May.mono _ _ _ _ _ _ _ _
      | exact whirligigref09_Same.mono _ _ _ _ _ _ _ _ _ _ _ _ _ _ _
      | exact whirligigref09_Text.mono _ _ _ _ _ _ _ _
      | exact LeO.none _
      | refine LeO.ite ?_ ?_
      | refine LeO.bind ?_ (fun _ => ?_)
theorem whirligiglaw09_AttrTexts.mono : ∀ a0 a1 a2 a3 a4 a5 a6 a7 a8 a9 a10 a11 a12 a13 k, LeO (whirligiglaw09_AttrTexts.f k a0 a1 a2 a3 a4 a5 a6 a7 a8 a9 a10 a11 a12 a13) (whirligiglaw09_AttrTexts.f (k + 1) a0 a1 a2 a3 a4 a5 a6 a7 a8 a9 a10 a11 a12 a13) := by
  intro a0 a1 a2 a3 a4 a5 a6 a7 a8 a9 a10 a11 a12 a13 k
  obtain ⟨ih0, ih1⟩ := whirligiglaw09_AttrTexts.mono_l k
  unfold whirligiglaw09_AttrTexts.f
  repeat' first
      | (with_reducible exact ih0 _ _ _ _ _ _ _ _ _ _ _ _ _ _ _)
      | (with_reducible exact ih1 _ _ _ _ _ _ _ _ _ _ _ _ _ _ _ _ _)
      | (with_reducible exact attr_May.mono _ _ _ _ _ _ _ _)
      | (with_reducible exact attr_Same.mono _ _ _ _ _ _ _ _ _ _ _ _ _ _ _)
      | (with_reducible exact attr_Text.mono _ _ _ _ _ _ _ _)
      | (with_reducible exact whirligiglaw09_lives.mono _)
      | (with_reducible exact whirligigref09_May.mono _ _ _ _ _ _ _ _)
      | (with_reducible exact whirligigref09_Same.mono _ _ _ _ _ _ _ _ _ _ _ _ _ _ _)
      | (with_reducible exact whirligigref09_Text.mono _ _ _ _ _ _ _ _)
      | (with_reducible exact LeO.refl _)
      | (with_reducible exact LeO.none _)
      | (with_reducible refine LeO.ite ?_ ?_)
      | (with_reducible refine LeO.bind ?_ (fun _ => ?_))
      | exact ih0 _ _ _ _ _ _ _ _ _ _ _ _ _ _ _
      | exact ih1 _ _ _ _ _ _ _ _ _ _ _ _ _ _ _ _ _
      | exact attr_May.mono _ _ _ _ _ _ _ _
      | exact attr_Same.mono _ _ _ _ _ _ _ _ _ _ _ _ _ _ _
      | exact attr_Text.mono _ _ _ _ _ _ _ _
      | exact whirligiglaw09_lives.mono _
      | exact whirligigref09_May.mono _ _ _ _ _ _ _ _
      | exact whirligigref09_Same.mono _ _ _ _ _ _ _ _ _ _ _ _ _ _ _
      | exact whirligigref09_Text.mono _ _ _ _ _ _ _ _
      | exact LeO.none _
      | refine LeO.ite ?_ ?_
      | refine LeO.bind ?_ (fun _ => ?_)
def whirligiglaw09_AttrTexts.T4 : Bool × List (List Nat × List Nat) := (true, [([], []), ([0], [0]), ([], []), ([2, 1], [2]), ([1, 3], [1, 3]), ([4, 3], [4]), ([5], [5]), ([5], [5]), ([7, 5, 5], [5, 7]), ([6, 8, 5], [5, 6, 8]), ([5, 9], [5, 9]), ([10, 8], [10]), ([11], [11]), ([11], [11]), ([12, 13, 11, 11], [11, 12, 13]), ([11], [11]), ([11], [11]), ([15, 16, 14, 11], [11, 15, 16]), ([14, 17, 11], [11, 14, 17]), ([11, 18], [11, 18])])
def whirligiglaw09_AttrTexts.B4 : List Nat := [0, 1, 0, 7, 15, 31, 63, 63, 191, 511, 1023, 2047, 4095, 4095, 16383, 4095, 4095, 131071, 262143, 524287]
theorem whirligiglaw09_AttrTexts.tab4 : rtab .any (opsOf Try.f5 4) = whirligiglaw09_AttrTexts.T4 := by kernel_rfl
theorem whirligiglaw09_AttrTexts.bits4 : waitsOk whirligiglaw09_AttrTexts.T4.2 whirligiglaw09_AttrTexts.B4 = true := by kernel_rfl
theorem k3ec6.b7 {W : World} {g : Nat} {v0 v1 v2 v3 v4 v5 v6 : Value} {t : TypeId} (h : W.heap[g]? = some (.cells #[v0, v1, v2, v3, v4, v5, v6] t (0, 0))) {R : Prop} (r : R) : W.cell? ⟨g, 0, none⟩ = some v0 ∧ W.cell? ⟨g, 1, none⟩ = some v1 ∧ W.cell? ⟨g, 2, none⟩ = some v2 ∧ W.cell? ⟨g, 3, none⟩ = some v3 ∧ W.cell? ⟨g, 4, none⟩ = some v4 ∧ W.cell? ⟨g, 5, none⟩ = some v5 ∧ W.cell? ⟨g, 6, none⟩ = some v6 ∧ R :=
  ⟨(blk_cell h 0).trans rfl, (blk_cell h 1).trans rfl, (blk_cell h 2).trans rfl, (blk_cell h 3).trans rfl, (blk_cell h 4).trans rfl, (blk_cell h 5).trans rfl, (blk_cell h 6).trans rfl, r⟩
theorem k3ec6.b7e {W : World} {g : Nat} {v0 v1 v2 v3 v4 v5 v6 : Value} {t : TypeId} (h : W.heap[g]? = some (.cells #[v0, v1, v2, v3, v4, v5, v6] t (0, 0))) : W.cell? ⟨g, 0, none⟩ = some v0 ∧ W.cell? ⟨g, 1, none⟩ = some v1 ∧ W.cell? ⟨g, 2, none⟩ = some v2 ∧ W.cell? ⟨g, 3, none⟩ = some v3 ∧ W.cell? ⟨g, 4, none⟩ = some v4 ∧ W.cell? ⟨g, 5, none⟩ = some v5 ∧ W.cell? ⟨g, 6, none⟩ = some v6 :=
  ⟨(blk_cell h 0).trans rfl, (blk_cell h 1).trans rfl, (blk_cell h 2).trans rfl, (blk_cell h 3).trans rfl, (blk_cell h 4).trans rfl, (blk_cell h 5).trans rfl, (blk_cell h 6).trans rfl⟩
theorem k3ec6.q {w W W' : World} {g : Nat} {o : Obj} (h : w.heap[g]? = some o) (e : W.heap = w.heap) (hb : Below W.heap.size W W') : W'.heap[g]? = some o := blk_below (e ▸ h) hb
theorem k3ec6.z {w0 w W W' : World} (h : Below w0.heap.size w0 w) (e : W.heap = w.heap) (e1 : W.os = w.os) (e2 : W.tape = w.tape) (e3 : W.output = w.output) (hb : Below W.heap.size W W') : Below w0.heap.size w0 W' := below_step ⟨e1.trans h.os, e2.trans h.tape, e3.trans h.output, e ▸ h.size, fun k hk => by rw [e]; exact h.block k hk⟩ hb
@[reducible] def k3ec6.S0 (g0 g1 : Nat) (v0 v1 v2 v3 v4 v5 v6 v7 v8 v9 v10 v11 v12 v13 : Value) (w' : World) : Prop := w'.cell? ⟨g0, 0, none⟩ = some v0 ∧ w'.cell? ⟨g0, 1, none⟩ = some v1 ∧ w'.cell? ⟨g0, 2, none⟩ = some v2 ∧ w'.cell? ⟨g0, 3, none⟩ = some v3 ∧ w'.cell? ⟨g0, 4, none⟩ = some v4 ∧ w'.cell? ⟨g0, 5, none⟩ = some v5 ∧ w'.cell? ⟨g0, 6, none⟩ = some v6 ∧ w'.cell? ⟨g1, 0, none⟩ = some v7 ∧ w'.cell? ⟨g1, 1, none⟩ = some v8 ∧ w'.cell? ⟨g1, 2, none⟩ = some v9 ∧ w'.cell? ⟨g1, 3, none⟩ = some v10 ∧ w'.cell? ⟨g1, 4, none⟩ = some v11 ∧ w'.cell? ⟨g1, 5, none⟩ = some v12 ∧ w'.cell? ⟨g1, 6, none⟩ = some v13
@[reducible] def k3ec6.S1 (g0 : Nat) (v0 v1 v2 v3 v4 v5 v6 : Value) (w' : World) : Prop := w'.cell? ⟨g0, 0, none⟩ = some v0 ∧ w'.cell? ⟨g0, 1, none⟩ = some v1 ∧ w'.cell? ⟨g0, 2, none⟩ = some v2 ∧ w'.cell? ⟨g0, 3, none⟩ = some v3 ∧ w'.cell? ⟨g0, 4, none⟩ = some v4 ∧ w'.cell? ⟨g0, 5, none⟩ = some v5 ∧ w'.cell? ⟨g0, 6, none⟩ = some v6
set_option maxHeartbeats 8000000 in
set_option maxRecDepth 100000 in
theorem whirligiglaw09_AttrTexts.calls (k : Nat) (ah : Int) (ai : Int) (aj : Int) (al : Option Addr) (am : Nat) (ae : List Int) (an : Option Addr) (ao : Nat) (af : List (S63)) (ak : Int) (ap : Option Addr) (aq : Nat) (ag : List Int) (bc : Int) (bd : Int) (be : Int) (bg : Option Addr) (bh : Nat) (ar : List Int) (bi : Option Addr) (bj : Nat) (au : List (S63)) (bf : Int) (bk : Option Addr) (bl : Nat) (av : List Int) (r : Bool) (w : World) (hr0_3 : Kd.C (Kd.int .i64) w al ae.length ae) (hc0_3 : ae.length ≤ am) (hr0_4 : Kd.C k63 w an af.length af) (hc0_4 : af.length ≤ ao) (hr0_6 : Kd.C (Kd.int .i64) w ap ag.length ag) (hc0_6 : ag.length ≤ aq) (hr1_3 : Kd.C (Kd.int .i64) w bg ar.length ar) (hc1_3 : ar.length ≤ bh) (hr1_4 : Kd.C k63 w bi au.length au) (hc1_4 : au.length ≤ bj) (hr1_6 : Kd.C (Kd.int .i64) w bk av.length av) (hc1_6 : av.length ≤ bl) (h : whirligiglaw09_AttrTexts.f k ah ai aj ae af ak ag bc bd be ar au bf av = some r) :
  Calls Try.prog 5 #[.agg #[.int .i64 ah, .int .i64 ai, .int .i64 aj, .slice al ae.length am, .slice an af.length ao, .int .i64 ak, .slice ap ag.length aq], .agg #[.int .i64 bc, .int .i64 bd, .int .i64 be, .slice bg ar.length bh, .slice bi au.length bj, .int .i64 bf, .slice bk av.length bl]] w fun e w' => e = .returned (.bool r) ∧ Below w.heap.size w w' := by
 have hu30 := Try.underlying30
 have aw := Aside0.mk hr0_3
 have ax := Aside0.mk hc0_3
 clear hr0_3 hc0_3
 have ay := Aside0.mk hr0_4
 have az := Aside0.mk hc0_4
 clear hr0_4 hc0_4
 have ba := Aside0.mk hr0_6
 have bb := Aside0.mk hc0_6
 clear hr0_6 hc0_6
 have bm := Aside0.mk hr1_3
 have bn := Aside0.mk hc1_3
 clear hr1_3 hc1_3
 have bo := Aside0.mk hr1_4
 have bp := Aside0.mk hc1_4
 clear hr1_4 hc1_4
 have bq := Aside0.mk hr1_6
 have br := Aside0.mk hc1_6
 clear hr1_6 hc1_6
 have HB := Aside0.mk (Below.refl w.heap.size w)
 have H := h
 unfold whirligiglaw09_AttrTexts.f at H
 clear h
 have HC3 := Aside0.mk H
 clear H
 go_enter Try.func5, Try.ntmps5
 go_upto_region 1 with (first | ((with_reducible refine gate_dst (N := 2) rfl ?_); refine box_event ?hg (N := 2) ?hd (cs := #[.int .i64 ah, .int .i64 ai, .int .i64 aj, .slice al ae.length am, .slice an af.length ao, .int .i64 ak, .slice ap ag.length aq]) (t := 30) ?hr ?_; (case hd => rfl); (case hg => rfl); (case hr => first | (go_simp; done) | (go_simp; rfl)); intro ac hg w4 hbox hb; have n0_ := Aside0.mk (k3ec6.z HB.out rfl rfl rfl rfl hb); have n1_ := Aside0.mk (hbox); have n2_ := Aside0.mk ((by rw [hg]; exact (below_size (by repeat (first | (with_reducible first | exact HB.out | apply below_alloc | apply pw_below_drewN | apply below_drew1) | exact HB.out))) : w.heap.size ≤ ac)); have n3_ := Aside0.mk ((by rw [hg]; exact (below_size (by repeat (first | (with_reducible first | exact HB.out | apply below_alloc | apply pw_below_drewN | apply below_drew1) | exact HB.out))) : w.heap.size ≤ ac)); clear HB; have HB := n0_; have aa := n1_; have GW318 := n2_; have GE318 := n3_; clear n0_ n1_ n2_ n3_; clear hb hbox hg) | ((with_reducible refine gate_dst (N := 3) rfl ?_); refine box_event ?hg (N := 3) ?hd (cs := #[.int .i64 bc, .int .i64 bd, .int .i64 be, .slice bg ar.length bh, .slice bi au.length bj, .int .i64 bf, .slice bk av.length bl]) (t := 30) ?hr ?_; (case hd => rfl); (case hg => rfl); (case hr => first | (go_simp; done) | (go_simp; rfl)); intro ad hg w5 hbox hb; have n0_ := Aside0.mk (k3ec6.q aa.out rfl hb); have n1_ := Aside0.mk (k3ec6.z HB.out rfl rfl rfl rfl hb); have n2_ := Aside0.mk (hbox); have n3_ := Aside0.mk ((by rw [hg]; exact (below_size (by repeat (first | (with_reducible first | exact HB.out | apply below_alloc | apply pw_below_drewN | apply below_drew1) | exact HB.out))) : w.heap.size ≤ ad)); have n4_ := Aside0.mk ((by rw [hg]; exact (below_size (by repeat (first | (with_reducible first | exact HB.out | apply below_alloc | apply pw_below_drewN | apply below_drew1) | exact HB.out))) : w.heap.size ≤ ad)); have n5_ := Aside0.mk ((by rw [hg]; exact Nat.ne_of_lt (blk_lt (g := ac) (o := .cells #[.int .i64 ah, .int .i64 ai, .int .i64 aj, .slice al ae.length am, .slice an af.length ao, .int .i64 ak, .slice ap ag.length aq] 30 (0, 0)) (by (with_reducible repeat (first | refine blk_drewN ?_ _ | refine blk_drew ?_ | refine blk_alloc ?_ _)); exact aa.out)) : ac ≠ ad)); have n6_ := Aside0.mk ((by rw [hg]; exact Nat.ne_of_gt (blk_lt (g := ac) (o := .cells #[.int .i64 ah, .int .i64 ai, .int .i64 aj, .slice al ae.length am, .slice an af.length ao, .int .i64 ak, .slice ap ag.length aq] 30 (0, 0)) (by (with_reducible repeat (first | refine blk_drewN ?_ _ | refine blk_drew ?_ | refine blk_alloc ?_ _)); exact aa.out)) : ad ≠ ac)); clear aa; clear HB; have aa := n0_; have HB := n1_; have ab := n2_; have GW319 := n3_; have GE319 := n4_; have NB318_319 := n5_; have NB319_318 := n6_; clear n0_ n1_ n2_ n3_ n4_ n5_ n6_; clear hb hbox hg))
 (try simp only [Act.put, List.setIfInBounds_toArray, List.set_cons_zero, List.set_cons_succ])
 go_cut [15] (fun v15 wc => ∃ (kq : Nat) (x15_2 : Bool), v15 = .bool x15_2 ∧ Aside0 (whirligiglaw09_AttrTexts.j0 kq x15_2 ah ai aj ae af ak ag bc bd be ar au bf av = some r) ∧ Aside0 (kq ≤ k) ∧ Aside0 (wc.heap[ac]? = some (.cells #[.int .i64 ah, .int .i64 ai, .int .i64 aj, (.slice al ae.length am), (.slice an af.length ao), .int .i64 ak, (.slice ap ag.length aq)] 30 (0, 0))) ∧ Aside0 (wc.heap[ad]? = some (.cells #[.int .i64 bc, .int .i64 bd, .int .i64 be, (.slice bg ar.length bh), (.slice bi au.length bj), .int .i64 bf, (.slice bk av.length bl)] 30 (0, 0))) ∧ Aside0 (Below w.heap.size w wc))
 case first =>
  have H := HC3.out
  clear HC3
  replace H := Option.bind_eq_some_iff.mp H
  obtain ⟨t320, A60, H⟩ := H
  (try dsimp only at H)
  have A6 := Aside0.mk A60
  clear A60
  by_cases c7 : t320 = true
  ·subst c7
   have H1 := H
   rw [if_pos rfl] at H1
   clear H
   have H := H1
   clear H1
   replace H := Option.bind_eq_some_iff.mp H
   obtain ⟨t321, A80, H⟩ := H
   (try dsimp only at H)
   have A8 := Aside0.mk A80
   clear A80
   have H' := Aside0.mk H
   clear H
   have hnb9 := NB318_319.out
   have hnc9 := NB319_318.out
   have hcz10_0 : w5.cell? ⟨ac, 0, none⟩ = some (.int .i64 ah) := (blk_cell aa.out 0).trans rfl
   have hcz10_1 : w5.cell? ⟨ac, 1, none⟩ = some (.int .i64 ai) := (blk_cell aa.out 1).trans rfl
   have hcz10_2 : w5.cell? ⟨ac, 2, none⟩ = some (.int .i64 aj) := (blk_cell aa.out 2).trans rfl
   have hcz10_3 : w5.cell? ⟨ac, 3, none⟩ = some (.slice al ae.length am) := (blk_cell aa.out 3).trans rfl
   have hcz10_4 : w5.cell? ⟨ac, 4, none⟩ = some (.slice an af.length ao) := (blk_cell aa.out 4).trans rfl
   have hcz10_5 : w5.cell? ⟨ac, 5, none⟩ = some (.int .i64 ak) := (blk_cell aa.out 5).trans rfl
   have hcz10_6 : w5.cell? ⟨ac, 6, none⟩ = some (.slice ap ag.length aq) := (blk_cell aa.out 6).trans rfl
   have hfz10_0 := blk_frozen aa.out 0
   have hfz10_1 := blk_frozen aa.out 1
   have hfz10_2 := blk_frozen aa.out 2
   have hfz10_3 := blk_frozen aa.out 3
   have hfz10_4 := blk_frozen aa.out 4
   have hfz10_5 := blk_frozen aa.out 5
   have hfz10_6 := blk_frozen aa.out 6
   go_wp2_with (first | ((with_reducible refine gate_callee (f := 11) rfl ?_); refine goesL_ (some 9) rfl rfl Try.func11 (by kernel_rfl) rfl #[.agg #[.int .i64 ah, .int .i64 ai, .int .i64 aj, .slice al ae.length am, .slice an af.length ao, .int .i64 ak, .slice ap ag.length aq]] rfl (by (try simp only [List.map_toArray, List.map_cons, List.map_nil]); first | done | rfl) ?_; (with_reducible refine (whirligigref09_Few.calls ah ai aj _ _ ae _ _ af ak _ _ ag true _ ?side1 ?side2 ?side3 ?side4 ?side5 ?side6 A6.out).mono ?_); (case side1 | side3 | side5 => repeat (first | exact (Kd.C_below aw.out HB.out) | exact (Kd.C_below ay.out HB.out) | exact (Kd.C_below ba.out HB.out) | (with_reducible refine Kd.C_alloc ?_ _) | (with_reducible refine Kd.C_drewN ?_ _) | (with_reducible refine Kd.C_drew ?_))); (case side2 | side4 | side6 => first | exact ax.out | exact az.out | exact bb.out); rintro e w11 ⟨rfl, hb⟩; refine ⟨_, rfl, ?_⟩; replace aa := Aside0.mk (k3ec6.q aa.out rfl hb); replace ab := Aside0.mk (k3ec6.q ab.out rfl hb); replace HB := Aside0.mk (k3ec6.z HB.out rfl rfl rfl rfl hb); (try clear hb); (try clear bt); (try clear hk); (try clear hi); have hcz12_0 : w11.cell? ⟨ad, 0, none⟩ = some (.int .i64 bc) := (blk_cell ab.out 0).trans rfl; have hcz12_1 : w11.cell? ⟨ad, 1, none⟩ = some (.int .i64 bd) := (blk_cell ab.out 1).trans rfl; have hcz12_2 : w11.cell? ⟨ad, 2, none⟩ = some (.int .i64 be) := (blk_cell ab.out 2).trans rfl; have hcz12_3 : w11.cell? ⟨ad, 3, none⟩ = some (.slice bg ar.length bh) := (blk_cell ab.out 3).trans rfl; have hcz12_4 : w11.cell? ⟨ad, 4, none⟩ = some (.slice bi au.length bj) := (blk_cell ab.out 4).trans rfl; have hcz12_5 : w11.cell? ⟨ad, 5, none⟩ = some (.int .i64 bf) := (blk_cell ab.out 5).trans rfl; have hcz12_6 : w11.cell? ⟨ad, 6, none⟩ = some (.slice bk av.length bl) := (blk_cell ab.out 6).trans rfl; have hfz12_0 := blk_frozen ab.out 0; have hfz12_1 := blk_frozen ab.out 1; have hfz12_2 := blk_frozen ab.out 2; have hfz12_3 := blk_frozen ab.out 3; have hfz12_4 := blk_frozen ab.out 4; have hfz12_5 := blk_frozen ab.out 5; have hfz12_6 := blk_frozen ab.out 6) | (go_at_call 11; (with_reducible refine (whirligigref09_Few.calls bc bd be _ _ ar _ _ au bf _ _ av t321 _ ?side1 ?side2 ?side3 ?side4 ?side5 ?side6 A8.out).mono ?_); (case side1 | side3 | side5 => repeat (first | exact (Kd.C_below bm.out HB.out) | exact (Kd.C_below bo.out HB.out) | exact (Kd.C_below bq.out HB.out) | (with_reducible refine Kd.C_alloc ?_ _) | (with_reducible refine Kd.C_drewN ?_ _) | (with_reducible refine Kd.C_drew ?_))); (case side2 | side4 | side6 => first | exact bn.out | exact bp.out | exact br.out); rintro e w13 ⟨rfl, hb⟩; replace aa := Aside0.mk (k3ec6.q aa.out rfl hb); replace ab := Aside0.mk (k3ec6.q ab.out rfl hb); replace HB := Aside0.mk (k3ec6.z HB.out rfl rfl rfl rfl hb); (try clear hb); (try clear bt); (try clear hk); (try clear hi)))
   go_meet
   case rel => exact ⟨_, (!t321), (by first | rfl | (simp; done) | (simp [*]; done)), H', ⟨by first | omega | exact Nat.le_refl _⟩, ⟨by (with_reducible repeat (first | refine blk_drewN ?_ _ | refine blk_drew ?_ | refine blk_alloc ?_ _)); exact aa.out⟩, ⟨by (with_reducible repeat (first | refine blk_drewN ?_ _ | refine blk_drew ?_ | refine blk_alloc ?_ _)); exact ab.out⟩, ⟨by repeat (first | (with_reducible first | exact HB.out | apply below_alloc | apply pw_below_drewN | apply below_drew1) | exact HB.out)⟩⟩
  ·replace c7 := Bool.eq_false_iff.mpr c7
   subst c7
   have H1 : (whirligiglaw09_AttrTexts.j0 k true ah ai aj ae af ak ag bc bd be ar au bf av) = some r := by rw [if_neg (show ¬ (false = true) by decide)] at H; exact H
   clear H
   have H := H1
   clear H1
   have H' := Aside0.mk H
   clear H
   have hnb14 := NB318_319.out
   have hnc14 := NB319_318.out
   have hcz15_0 : w5.cell? ⟨ac, 0, none⟩ = some (.int .i64 ah) := (blk_cell aa.out 0).trans rfl
   have hcz15_1 : w5.cell? ⟨ac, 1, none⟩ = some (.int .i64 ai) := (blk_cell aa.out 1).trans rfl
   have hcz15_2 : w5.cell? ⟨ac, 2, none⟩ = some (.int .i64 aj) := (blk_cell aa.out 2).trans rfl
   have hcz15_3 : w5.cell? ⟨ac, 3, none⟩ = some (.slice al ae.length am) := (blk_cell aa.out 3).trans rfl
   have hcz15_4 : w5.cell? ⟨ac, 4, none⟩ = some (.slice an af.length ao) := (blk_cell aa.out 4).trans rfl
   have hcz15_5 : w5.cell? ⟨ac, 5, none⟩ = some (.int .i64 ak) := (blk_cell aa.out 5).trans rfl
   have hcz15_6 : w5.cell? ⟨ac, 6, none⟩ = some (.slice ap ag.length aq) := (blk_cell aa.out 6).trans rfl
   have hfz15_0 := blk_frozen aa.out 0
   have hfz15_1 := blk_frozen aa.out 1
   have hfz15_2 := blk_frozen aa.out 2
   have hfz15_3 := blk_frozen aa.out 3
   have hfz15_4 := blk_frozen aa.out 4
   have hfz15_5 := blk_frozen aa.out 5
   have hfz15_6 := blk_frozen aa.out 6
   go_wp2_with (first | ((with_reducible refine gate_callee (f := 11) rfl ?_); refine goesL_ (some 9) rfl rfl Try.func11 (by kernel_rfl) rfl #[.agg #[.int .i64 ah, .int .i64 ai, .int .i64 aj, .slice al ae.length am, .slice an af.length ao, .int .i64 ak, .slice ap ag.length aq]] rfl (by (try simp only [List.map_toArray, List.map_cons, List.map_nil]); first | done | rfl) ?_; (with_reducible refine (whirligigref09_Few.calls ah ai aj _ _ ae _ _ af ak _ _ ag false _ ?side1 ?side2 ?side3 ?side4 ?side5 ?side6 A6.out).mono ?_); (case side1 | side3 | side5 => repeat (first | exact (Kd.C_below aw.out HB.out) | exact (Kd.C_below ay.out HB.out) | exact (Kd.C_below ba.out HB.out) | (with_reducible refine Kd.C_alloc ?_ _) | (with_reducible refine Kd.C_drewN ?_ _) | (with_reducible refine Kd.C_drew ?_))); (case side2 | side4 | side6 => first | exact ax.out | exact az.out | exact bb.out); rintro e w16 ⟨rfl, hb⟩; refine ⟨_, rfl, ?_⟩; replace aa := Aside0.mk (k3ec6.q aa.out rfl hb); replace ab := Aside0.mk (k3ec6.q ab.out rfl hb); replace HB := Aside0.mk (k3ec6.z HB.out rfl rfl rfl rfl hb); (try clear hb); (try clear bt); (try clear hk); (try clear hi)))
   go_meet
   case rel => exact ⟨_, (true), (by first | rfl | (simp; done) | (simp [*]; done)), H', ⟨by first | omega | exact Nat.le_refl _⟩, ⟨by (with_reducible repeat (first | refine blk_drewN ?_ _ | refine blk_drew ?_ | refine blk_alloc ?_ _)); exact aa.out⟩, ⟨by (with_reducible repeat (first | refine blk_drewN ?_ _ | refine blk_drew ?_ | refine blk_alloc ?_ _)); exact ab.out⟩, ⟨by repeat (first | (with_reducible first | exact HB.out | apply below_alloc | apply pw_below_drewN | apply below_drew1) | exact HB.out)⟩⟩
 case rest =>
  clear HC3
  try clear c1
  try clear p2
  try clear c5
  try clear c7
  try clear c9
  try clear c11
  try clear c14
  try clear hcz10_0
  try clear hcz10_1
  try clear hcz10_2
  try clear hcz10_3
  try clear hcz10_4
  try clear hcz10_5
  try clear hcz10_6
  try clear hcz12_0
  try clear hcz12_1
  try clear hcz12_2
  try clear hcz12_3
  try clear hcz12_4
  try clear hcz12_5
  try clear hcz12_6
  try clear hcz15_0
  try clear hcz15_1
  try clear hcz15_2
  try clear hcz15_3
  try clear hcz15_4
  try clear hcz15_5
  try clear hcz15_6
  try clear hfz10_0
  try clear hfz10_1
  try clear hfz10_2
  try clear hfz10_3
  try clear hfz10_4
  try clear hfz10_5
  try clear hfz10_6
  try clear hfz12_0
  try clear hfz12_1
  try clear hfz12_2
  try clear hfz12_3
  try clear hfz12_4
  try clear hfz12_5
  try clear hfz12_6
  try clear hfz15_0
  try clear hfz15_1
  try clear hfz15_2
  try clear hfz15_3
  try clear hfz15_4
  try clear hfz15_5
  try clear hfz15_6
  obtain ⟨kq, x15_2, rfl, HA, HJ2, aa, ab, HB⟩ := hcut
  cases kq with
  | zero => exact absurd HA.out (by simp [whirligiglaw09_AttrTexts.j0])
  | succ bu =>
   have H := HA.out
   clear HA
   simp only [whirligiglaw09_AttrTexts.j0] at H
   by_cases c17 : x15_2 = true
   ·subst c17
    have H1 : ((whirligiglaw09_lives.f bu).bind fun t322 => (some t322)) = some r := by rw [if_pos rfl] at H; exact H
    clear H
    have H := H1
    clear H1
    replace H := Option.bind_eq_some_iff.mp H
    obtain ⟨t322, A180, H⟩ := H
    replace H : (some t322) = some r := H
    have A18 := Aside0.mk A180
    clear A180
    obtain rfl := Option.some.inj H
    go_wp2_with (first | ((with_reducible refine gate_callee (f := 10) rfl ?_); refine goesL_ (some 16) rfl rfl Try.func10 (by kernel_rfl) rfl #[] rfl (by (try simp only [List.map_toArray, List.map_cons, List.map_nil]); first | done | rfl) ?_; (with_reducible refine (whirligiglaw09_lives.calls bu  t322 _ A18.out).mono ?_); rintro e w19 ⟨rfl, hb⟩; refine ⟨_, rfl, ?_⟩; replace aa := Aside0.mk (k3ec6.q aa.out rfl hb); replace ab := Aside0.mk (k3ec6.q ab.out rfl hb); replace HB := Aside0.mk (k3ec6.z HB.out rfl rfl rfl rfl hb); (try clear hb); (try clear bt); (try clear hk); (try clear hi)))
    go_ret
    exact ⟨by first | rfl | (simp [errW_none, errW_some] <;> rfl) | (simp [*, errW_none, errW_some] <;> rfl), by repeat (first | (with_reducible first | exact HB.out | apply below_alloc | apply pw_below_drewN | apply below_drew1) | exact HB.out)⟩
   ·replace c17 := Bool.eq_false_iff.mpr c17
    subst c17
    have H1 := H
    rw [if_neg (show ¬ (false = true) by decide)] at H1
    clear H
    have H := H1
    clear H1
    replace H := Option.bind_eq_some_iff.mp H
    obtain ⟨t323, A200, H⟩ := H
    (try dsimp only at H)
    have A20 := Aside0.mk A200
    clear A200
    replace H := Option.bind_eq_some_iff.mp H
    obtain ⟨t324, A210, H⟩ := H
    (try dsimp only at H)
    have A21 := Aside0.mk A210
    clear A210
    have HC22 := Aside0.mk H
    clear H
    try go_wp2
    replace aa := Aside0.mk (blk_drew aa.out)
    replace ab := Aside0.mk (blk_drew ab.out)
    replace HB := Aside0.mk (below_drew1 HB.out)
    refine start_ (n := 6) (S := k3ec6.S0 ac ad (.int .i64 ah) (.int .i64 ai) (.int .i64 aj) (.slice al ae.length am) (.slice an af.length ao) (.int .i64 ak) (.slice ap ag.length aq) (.int .i64 bc) (.int .i64 bd) (.int .i64 be) (.slice bg ar.length bh) (.slice bi au.length bj) (.int .i64 bf) (.slice bk av.length bl)) (ds := []) #[false, false, false, false, false, false] (by kernel_rfl) rfl rfl (k3ec6.b7 aa.out (k3ec6.b7e ab.out)) (fun hHeld => ?_)
    generalize wc.drew = w23 at aa ab HB hHeld ⊢
    refine take_ (i := 0) (N := some 17) (v := ?_) (a' := ?_) #[true, false, false, false, false, false] rfl rfl (by kernel_rfl) (fun _ _ _ h => h) (Or.inl ⟨by rfl, ?_⟩) hHeld ?_ ?_
    rotate_left
    ·rintro w' ⟨s0, s1, s2, s3, s4, s5, s6, s7, s8, s9, s10, s11, s12, s13⟩
     go_simp
     with_reducible rfl
    rotate_left
    ·simp only [Act.put, List.setIfInBounds_toArray, List.set_cons_zero, List.set_cons_succ, i64_w, i32_w]
     rfl
    refine take_ (i := 2) (N := some 19) (v := ?_) (a' := ?_) #[true, false, true, false, false, false] rfl rfl (by kernel_rfl) (fun _ _ _ h => h) (Or.inl ⟨by rfl, ?_⟩) hHeld ?_ ?_
    rotate_left
    ·rintro w' ⟨s0, s1, s2, s3, s4, s5, s6, s7, s8, s9, s10, s11, s12, s13⟩
     go_simp
     with_reducible rfl
    rotate_left
    ·simp only [Act.put, List.setIfInBounds_toArray, List.set_cons_zero, List.set_cons_succ, i64_w, i32_w]
     rfl
    refine one_ (i := 1) (N := some 18) #[true, true, true, false, false, false] rfl rfl (by kernel_rfl) (by decide) (fun K hK => ?_)
    refine goes_ Try.func14 (by kernel_rfl) rfl #[.agg #[.int .i64 ah, .int .i64 ai, .int .i64 aj, .slice al ae.length am, .slice an af.length ao, .int .i64 ak, .slice ap ag.length aq]] (by rfl) rfl rfl (by (try simp only [List.map_toArray, List.map_cons, List.map_nil]); first | done | rfl) ?_
    with_reducible refine (attr_Text.calls bu ah ai aj _ _ ae _ _ af ak _ _ ag t323 _ ?side1 ?side2 ?side3 ?side4 ?side5 ?side6 A20.out).mono ?_
    (case side1 | side3 | side5 => repeat (first | exact (Kd.C_below aw.out HB.out) | exact (Kd.C_below ay.out HB.out) | exact (Kd.C_below ba.out HB.out) | (with_reducible refine Kd.C_alloc ?_ _) | (with_reducible refine Kd.C_drewN ?_ _) | (with_reducible refine Kd.C_drew ?_)))
    (case side2 | side4 | side6 => first | exact ax.out | exact az.out | exact bb.out)
    rintro e w24 ⟨rfl, hb⟩
    refine ⟨_, rfl, ?_⟩
    replace aa := Aside0.mk (k3ec6.q aa.out rfl hb)
    replace ab := Aside0.mk (k3ec6.q ab.out rfl hb)
    replace HB := Aside0.mk (k3ec6.z HB.out rfl rfl rfl rfl hb)
    (try clear hb)
    (try clear bt)
    (try clear hk)
    (try clear hi)
    refine hK.out _ _ (k3ec6.b7 aa.out (k3ec6.b7e ab.out)) (fun hHeld => ?_)
    clear hK K
    refine norm_ (a' := ?_) ?_ ?_
    rotate_left
    ·show Act.put _ (some 18) _ = _
     simp only [Act.put, List.setIfInBounds_toArray, List.set_cons_zero, List.set_cons_succ, i64_w, i32_w]
     rfl
    refine one_ (i := 3) (N := some 20) #[true, true, true, true, false, false] rfl rfl (by kernel_rfl) (by decide) (fun K hK => ?_)
    refine goes_ Try.func14 (by kernel_rfl) rfl #[.agg #[.int .i64 bc, .int .i64 bd, .int .i64 be, .slice bg ar.length bh, .slice bi au.length bj, .int .i64 bf, .slice bk av.length bl]] (by rfl) rfl rfl (by (try simp only [List.map_toArray, List.map_cons, List.map_nil]); first | done | rfl) ?_
    with_reducible refine (attr_Text.calls bu bc bd be _ _ ar _ _ au bf _ _ av t324 _ ?side1 ?side2 ?side3 ?side4 ?side5 ?side6 A21.out).mono ?_
    (case side1 | side3 | side5 => repeat (first | exact (Kd.C_below bm.out HB.out) | exact (Kd.C_below bo.out HB.out) | exact (Kd.C_below bq.out HB.out) | (with_reducible refine Kd.C_alloc ?_ _) | (with_reducible refine Kd.C_drewN ?_ _) | (with_reducible refine Kd.C_drew ?_)))
    (case side2 | side4 | side6 => first | exact bn.out | exact bp.out | exact br.out)
    rintro e w25 ⟨rfl, hb⟩
    refine ⟨_, rfl, ?_⟩
    replace aa := Aside0.mk (k3ec6.q aa.out rfl hb)
    replace ab := Aside0.mk (k3ec6.q ab.out rfl hb)
    replace HB := Aside0.mk (k3ec6.z HB.out rfl rfl rfl rfl hb)
    (try clear hb)
    (try clear bt)
    (try clear hk)
    (try clear hi)
    refine hK.out _ _ (k3ec6.b7 aa.out (k3ec6.b7e ab.out)) (fun hHeld => ?_)
    clear hK K
    refine norm_ (a' := ?_) ?_ ?_
    rotate_left
    ·show Act.put _ (some 20) _ = _
     simp only [Act.put, List.setIfInBounds_toArray, List.set_cons_zero, List.set_cons_succ, i64_w, i32_w]
     rfl
    refine pure_ (i := 4) (N := some 5) (v := ?_) (a' := ?_) #[true, true, true, true, true, false] rfl rfl (by kernel_rfl) (fun _ _ _ h => h) (Or.inl ⟨by rfl, ?_⟩) ?_ ?_
    rotate_left
    ·intro w'
     go_simp
     with_reducible rfl
    rotate_left
    ·simp only [Act.put, List.setIfInBounds_toArray, List.set_cons_zero, List.set_cons_succ, i64_w, i32_w]
     rfl
    refine pure_ (i := 5) (N := some 6) (v := ?_) (a' := ?_) #[true, true, true, true, true, true] rfl rfl (by kernel_rfl) (fun _ _ _ h => h) (Or.inl ⟨by rfl, ?_⟩) ?_ ?_
    rotate_left
    ·intro w'
     go_simp
     with_reducible rfl
    rotate_left
    ·simp only [Act.put, List.setIfInBounds_toArray, List.set_cons_zero, List.set_cons_succ, i64_w, i32_w]
     rfl
    refine done_ (by kernel_rfl) ?_
    go_upto_region 4 with (fail)
    go_cut [40] (fun v40 wc => ∃ (kq : Nat) (x40_21 : Bool), v40 = .bool x40_21 ∧ Aside0 (whirligiglaw09_AttrTexts.j1 kq t323 t324 x40_21 ah ai aj ae af ak ag bc bd be ar au bf av = some r) ∧ Aside0 (kq ≤ bu) ∧ Aside0 (wc.heap[ac]? = some (.cells #[.int .i64 ah, .int .i64 ai, .int .i64 aj, (.slice al ae.length am), (.slice an af.length ao), .int .i64 ak, (.slice ap ag.length aq)] 30 (0, 0))) ∧ Aside0 (wc.heap[ad]? = some (.cells #[.int .i64 bc, .int .i64 bd, .int .i64 be, (.slice bg ar.length bh), (.slice bi au.length bj), .int .i64 bf, (.slice bk av.length bl)] 30 (0, 0))) ∧ Aside0 (Below w.heap.size w wc))
    case first =>
     have H := HC22.out
     clear HC22
     replace H := Option.bind_eq_some_iff.mp H
     obtain ⟨t325, A260, H⟩ := H
     (try dsimp only at H)
     have A26 := Aside0.mk A260
     clear A260
     replace H := Option.bind_eq_some_iff.mp H
     obtain ⟨t326, A270, H⟩ := H
     (try dsimp only at H)
     have A27 := Aside0.mk A270
     clear A270
     by_cases bv : (t325 != t326) = true
     ·rw [if_pos bv] at H
      have c28b0 : (t325 != t326) = true := bv
      (try (have c28b1 : decide (t325 = t326) = false := by simpa using bv))
      (try (have c28b2 : (t325 == t326) = false := by simpa using bv))
      (try (have c28b3 : ¬ (t325 = t326) := by simpa using bv))
      clear bv
      (first | rw [c28b0] | (simp only [i64_w, i32_w]; rw [c28b0]) | skip)
      have H' := Aside0.mk H
      clear H
      try go_wp2
      replace aa := Aside0.mk (blk_drew aa.out)
      replace ab := Aside0.mk (blk_drew ab.out)
      replace HB := Aside0.mk (below_drew1 HB.out)
      refine start_ (n := 20) (S := k3ec6.S1 ac (.int .i64 ah) (.int .i64 ai) (.int .i64 aj) (.slice al ae.length am) (.slice an af.length ao) (.int .i64 ak) (.slice ap ag.length aq)) (ds := []) #[false, false, false, false, false, false, false, false, false, false, false, false, false, false, false, false, false, false, false, false] (by kernel_rfl) rfl rfl (k3ec6.b7e aa.out) (fun hHeld => ?_); refine with_tabW whirligiglaw09_AttrTexts.tab4 whirligiglaw09_AttrTexts.bits4 (fun HT_ HW_ => ?_)
      generalize w25.drew = w29 at aa ab HB hHeld ⊢
      refine take_ (i := 0) (N := some 21) (v := ?_) (a' := ?_) #[true, false, false, false, false, false, false, false, false, false, false, false, false, false, false, false, false, false, false, false] rfl rfl (take_ofW HT_.out HW_.out (by kernel_rfl)) (fun _ _ _ h => h) (Or.inl ⟨by rfl, ?_⟩) hHeld ?_ ?_
      rotate_left
      ·rintro w' ⟨s0, s1, s2, s3, s4, s5, s6⟩
       go_simp
       with_reducible rfl
      rotate_left
      ·simp only [Act.put, List.setIfInBounds_toArray, List.set_cons_zero, List.set_cons_succ, i64_w, i32_w]
       rfl
      refine take_ (i := 2) (N := some 23) (v := ?_) (a' := ?_) #[true, false, true, false, false, false, false, false, false, false, false, false, false, false, false, false, false, false, false, false] rfl rfl (take_ofW HT_.out HW_.out (by kernel_rfl)) (fun _ _ _ h => h) (Or.inl ⟨by rfl, ?_⟩) hHeld ?_ ?_
      rotate_left
      ·rintro w' ⟨s0, s1, s2, s3, s4, s5, s6⟩
       go_simp
       with_reducible rfl
      rotate_left
      ·simp only [Act.put, List.setIfInBounds_toArray, List.set_cons_zero, List.set_cons_succ, i64_w, i32_w]
       rfl
      refine one_ (i := 1) (N := some 22) #[true, true, true, false, false, false, false, false, false, false, false, false, false, false, false, false, false, false, false, false] rfl rfl (one_of HT_.out (by kernel_rfl)) (by decide) (fun K hK => ?_)
      refine goes_ Try.func15 (by kernel_rfl) rfl #[.agg #[.int .i64 ah, .int .i64 ai, .int .i64 aj, .slice al ae.length am, .slice an af.length ao, .int .i64 ak, .slice ap ag.length aq]] (by rfl) rfl rfl (by (try simp only [List.map_toArray, List.map_cons, List.map_nil]); first | done | rfl) ?_
      with_reducible refine (attr_May.calls bu ah ai aj _ _ ae _ _ af ak _ _ ag t325 _ ?side1 ?side2 ?side3 ?side4 ?side5 ?side6 A26.out).mono ?_
      (case side1 | side3 | side5 => repeat (first | exact (Kd.C_below aw.out HB.out) | exact (Kd.C_below ay.out HB.out) | exact (Kd.C_below ba.out HB.out) | (with_reducible refine Kd.C_alloc ?_ _) | (with_reducible refine Kd.C_drewN ?_ _) | (with_reducible refine Kd.C_drew ?_)))
      (case side2 | side4 | side6 => first | exact ax.out | exact az.out | exact bb.out)
      rintro e w30 ⟨rfl, hb⟩
      refine ⟨_, rfl, ?_⟩
      replace aa := Aside0.mk (k3ec6.q aa.out rfl hb)
      replace ab := Aside0.mk (k3ec6.q ab.out rfl hb)
      replace HB := Aside0.mk (k3ec6.z HB.out rfl rfl rfl rfl hb)
      (try clear hb)
      (try clear bt)
      (try clear hk)
      (try clear hi)
      refine hK.out _ _ (k3ec6.b7e aa.out) (fun hHeld => ?_)
      clear hK K
      refine norm_ (a' := ?_) ?_ ?_
      rotate_left
      ·show Act.put _ (some 22) _ = _
       simp only [Act.put, List.setIfInBounds_toArray, List.set_cons_zero, List.set_cons_succ, i64_w, i32_w]
       rfl
      refine one_ (i := 3) (N := some 24) #[true, true, true, true, false, false, false, false, false, false, false, false, false, false, false, false, false, false, false, false] rfl rfl (one_of HT_.out (by kernel_rfl)) (by decide) (fun K hK => ?_)
      refine goes_ Try.func16 (by kernel_rfl) rfl #[.agg #[.int .i64 ah, .int .i64 ai, .int .i64 aj, .slice al ae.length am, .slice an af.length ao, .int .i64 ak, .slice ap ag.length aq]] (by rfl) rfl rfl (by (try simp only [List.map_toArray, List.map_cons, List.map_nil]); first | done | rfl) ?_
      with_reducible refine (whirligigref09_May.calls bu ah ai aj _ _ ae _ _ af ak _ _ ag t326 _ ?side1 ?side2 ?side3 ?side4 ?side5 ?side6 A27.out).mono ?_
      (case side1 | side3 | side5 => repeat (first | exact (Kd.C_below aw.out HB.out) | exact (Kd.C_below ay.out HB.out) | exact (Kd.C_below ba.out HB.out) | (with_reducible refine Kd.C_alloc ?_ _) | (with_reducible refine Kd.C_drewN ?_ _) | (with_reducible refine Kd.C_drew ?_)))
      (case side2 | side4 | side6 => first | exact ax.out | exact az.out | exact bb.out)
      rintro e w31 ⟨rfl, hb⟩
      refine ⟨_, rfl, ?_⟩
      replace aa := Aside0.mk (k3ec6.q aa.out rfl hb)
      replace ab := Aside0.mk (k3ec6.q ab.out rfl hb)
      replace HB := Aside0.mk (k3ec6.z HB.out rfl rfl rfl rfl hb)
      (try clear hb)
      (try clear bt)
      (try clear hk)
      (try clear hi)
      refine hK.out _ _ (k3ec6.b7e aa.out) (fun hHeld => ?_)
      clear hK K
      refine norm_ (a' := ?_) ?_ ?_
      rotate_left
      ·show Act.put _ (some 24) _ = _
       simp only [Act.put, List.setIfInBounds_toArray, List.set_cons_zero, List.set_cons_succ, i64_w, i32_w]
       rfl
      refine pure_ (i := 4) (N := some 25) (v := ?_) (a' := ?_) #[true, true, true, true, true, false, false, false, false, false, false, false, false, false, false, false, false, false, false, false] rfl rfl (any_of HT_.out (by kernel_rfl)) (fun _ _ _ h => h) (Or.inl ⟨by rfl, ?_⟩) ?_ ?_
      rotate_left
      ·intro w'
       go_simp
       with_reducible rfl
      rotate_left
      ·simp only [Act.put, List.setIfInBounds_toArray, List.set_cons_zero, List.set_cons_succ, i64_w, i32_w]
       rfl
      refine pure_ (i := 5) (N := some 26) (v := ?_) (a' := ?_) #[true, true, true, true, true, true, false, false, false, false, false, false, false, false, false, false, false, false, false, false] rfl rfl (any_of HT_.out (by kernel_rfl)) (fun _ _ _ h => h) (Or.inl ⟨by rfl, ?_⟩) ?_ ?_
      rotate_left
      ·intro w'
       go_simp
       with_reducible rfl
      rotate_left
      ·simp only [Act.put, List.setIfInBounds_toArray, List.set_cons_zero, List.set_cons_succ, i64_w, i32_w]
       rfl
      refine pure_ (i := 6) (N := some 27) (v := undef) (a' := ?_) #[true, true, true, true, true, true, true, false, false, false, false, false, false, false, false, false, false, false, false, false] rfl rfl (any_of HT_.out (by kernel_rfl)) (fun _ _ _ h => h) (Or.inr ⟨by rfl, rfl⟩) ?_ ?_
      rotate_left
      ·simp only [Act.put, List.setIfInBounds_toArray, List.set_cons_zero, List.set_cons_succ, i64_w, i32_w]
       rfl
      refine pure_ (i := 7) (N := some 28) (v := undef) (a' := ?_) #[true, true, true, true, true, true, true, true, false, false, false, false, false, false, false, false, false, false, false, false] rfl rfl (any_of HT_.out (by kernel_rfl)) (fun _ _ _ h => h) (Or.inr ⟨by rfl, rfl⟩) ?_ ?_
      rotate_left
      ·simp only [Act.put, List.setIfInBounds_toArray, List.set_cons_zero, List.set_cons_succ, i64_w, i32_w]
       rfl
      refine pure_ (i := 8) (N := some 29) (v := undef) (a' := ?_) #[true, true, true, true, true, true, true, true, true, false, false, false, false, false, false, false, false, false, false, false] rfl rfl (any_of HT_.out (by kernel_rfl)) (fun _ _ _ h => h) (Or.inr ⟨by rfl, rfl⟩) ?_ ?_
      rotate_left
      ·simp only [Act.put, List.setIfInBounds_toArray, List.set_cons_zero, List.set_cons_succ, i64_w, i32_w]
       rfl
      refine pure_ (i := 9) (N := some 30) (v := undef) (a' := ?_) #[true, true, true, true, true, true, true, true, true, true, false, false, false, false, false, false, false, false, false, false] rfl rfl (any_of HT_.out (by kernel_rfl)) (fun _ _ _ h => h) (Or.inr ⟨by rfl, rfl⟩) ?_ ?_
      rotate_left
      ·simp only [Act.put, List.setIfInBounds_toArray, List.set_cons_zero, List.set_cons_succ, i64_w, i32_w]
       rfl
      refine pure_ (i := 10) (N := some 31) (v := ?_) (a' := ?_) #[true, true, true, true, true, true, true, true, true, true, true, false, false, false, false, false, false, false, false, false] rfl rfl (any_of HT_.out (by kernel_rfl)) (fun _ _ _ h => h) (Or.inl ⟨by rfl, ?_⟩) ?_ ?_
      rotate_left
      ·intro w'
       go_simp
       with_reducible rfl
      rotate_left
      ·simp only [Act.put, List.setIfInBounds_toArray, List.set_cons_zero, List.set_cons_succ, i64_w, i32_w]
       rfl
      refine pure_ (i := 11) (N := some 32) (v := ?_) (a' := ?_) #[true, true, true, true, true, true, true, true, true, true, true, true, false, false, false, false, false, false, false, false] rfl rfl (any_of HT_.out (by kernel_rfl)) (fun _ _ _ h => h) (Or.inl ⟨by rfl, ?_⟩) ?_ ?_
      rotate_left
      ·intro w'
       go_simp
       with_reducible rfl
      rotate_left
      ·simp only [Act.put, List.setIfInBounds_toArray, List.set_cons_zero, List.set_cons_succ, i64_w, i32_w]
       rfl
      refine pure_ (i := 12) (N := some 33) (v := undef) (a' := ?_) #[true, true, true, true, true, true, true, true, true, true, true, true, true, false, false, false, false, false, false, false] rfl rfl (any_of HT_.out (by kernel_rfl)) (fun _ _ _ h => h) (Or.inr ⟨by rfl, rfl⟩) ?_ ?_
      rotate_left
      ·simp only [Act.put, List.setIfInBounds_toArray, List.set_cons_zero, List.set_cons_succ, i64_w, i32_w]
       rfl
      refine pure_ (i := 13) (N := some 34) (v := undef) (a' := ?_) #[true, true, true, true, true, true, true, true, true, true, true, true, true, true, false, false, false, false, false, false] rfl rfl (any_of HT_.out (by kernel_rfl)) (fun _ _ _ h => h) (Or.inr ⟨by rfl, rfl⟩) ?_ ?_
      rotate_left
      ·simp only [Act.put, List.setIfInBounds_toArray, List.set_cons_zero, List.set_cons_succ, i64_w, i32_w]
       rfl
      refine pure_ (i := 14) (N := some 35) (v := undef) (a' := ?_) #[true, true, true, true, true, true, true, true, true, true, true, true, true, true, true, false, false, false, false, false] rfl rfl (any_of HT_.out (by kernel_rfl)) (fun _ _ _ h => h) (Or.inr ⟨by rfl, rfl⟩) ?_ ?_
      rotate_left
      ·simp only [Act.put, List.setIfInBounds_toArray, List.set_cons_zero, List.set_cons_succ, i64_w, i32_w]
       rfl
      refine pure_ (i := 15) (N := some 36) (v := undef) (a' := ?_) #[true, true, true, true, true, true, true, true, true, true, true, true, true, true, true, true, false, false, false, false] rfl rfl (any_of HT_.out (by kernel_rfl)) (fun _ _ _ h => h) (Or.inr ⟨by rfl, rfl⟩) ?_ ?_
      rotate_left
      ·simp only [Act.put, List.setIfInBounds_toArray, List.set_cons_zero, List.set_cons_succ, i64_w, i32_w]
       rfl
      refine pure_ (i := 16) (N := some 37) (v := undef) (a' := ?_) #[true, true, true, true, true, true, true, true, true, true, true, true, true, true, true, true, true, false, false, false] rfl rfl (any_of HT_.out (by kernel_rfl)) (fun _ _ _ h => h) (Or.inr ⟨by rfl, rfl⟩) ?_ ?_
      rotate_left
      ·simp only [Act.put, List.setIfInBounds_toArray, List.set_cons_zero, List.set_cons_succ, i64_w, i32_w]
       rfl
      refine pure_ (i := 17) (N := some 38) (v := undef) (a' := ?_) #[true, true, true, true, true, true, true, true, true, true, true, true, true, true, true, true, true, true, false, false] rfl rfl (any_of HT_.out (by kernel_rfl)) (fun _ _ _ h => h) (Or.inr ⟨by rfl, rfl⟩) ?_ ?_
      rotate_left
      ·simp only [Act.put, List.setIfInBounds_toArray, List.set_cons_zero, List.set_cons_succ, i64_w, i32_w]
       rfl
      refine pure_ (i := 18) (N := some 39) (v := undef) (a' := ?_) #[true, true, true, true, true, true, true, true, true, true, true, true, true, true, true, true, true, true, true, false] rfl rfl (any_of HT_.out (by kernel_rfl)) (fun _ _ _ h => h) (Or.inr ⟨by rfl, rfl⟩) ?_ ?_
      rotate_left
      ·simp only [Act.put, List.setIfInBounds_toArray, List.set_cons_zero, List.set_cons_succ, i64_w, i32_w]
       rfl
      refine pure_ (i := 19) (N := some 40) (v := ?_) (a' := ?_) #[true, true, true, true, true, true, true, true, true, true, true, true, true, true, true, true, true, true, true, true] rfl rfl (any_of HT_.out (by kernel_rfl)) (fun _ _ _ h => h) (Or.inl ⟨by rfl, ?_⟩) ?_ ?_
      rotate_left
      ·intro w'
       go_simp
       with_reducible rfl
      rotate_left
      ·simp only [Act.put, List.setIfInBounds_toArray, List.set_cons_zero, List.set_cons_succ, i64_w, i32_w]
       rfl
      refine done_ (done_of HT_.out (by kernel_rfl)) ?_
      try go_wp2
      go_meet
      case rel => exact ⟨_, (true), (by first | rfl | (simp; done) | (simp [*]; done)), H', ⟨by have := HJ2.out; first | omega | exact Nat.le_refl _⟩, ⟨by (with_reducible repeat (first | refine blk_drewN ?_ _ | refine blk_drew ?_ | refine blk_alloc ?_ _)); exact aa.out⟩, ⟨by (with_reducible repeat (first | refine blk_drewN ?_ _ | refine blk_drew ?_ | refine blk_alloc ?_ _)); exact ab.out⟩, ⟨by repeat (first | (with_reducible first | exact HB.out | apply below_alloc | apply pw_below_drewN | apply below_drew1) | exact HB.out)⟩⟩
     ·rw [if_neg bv] at H
      have c28b0 : (t325 != t326) = false := by simpa using bv
      (try (have c28b1 : decide (t325 = t326) = true := by simpa using bv))
      (try (have c28b2 : (t325 == t326) = true := by simpa using bv))
      clear bv
      (first | rw [c28b0] | (simp only [i64_w, i32_w]; rw [c28b0]) | skip)
      replace H := Option.bind_eq_some_iff.mp H
      obtain ⟨t327, A320, H⟩ := H
      (try dsimp only at H)
      have A32 := Aside0.mk A320
      clear A320
      by_cases bx : t323.toList = t327.toList
      ·rw [if_pos bx] at H
       have c33b0 : (t323.toList == t327.toList) = true := beq_iff_eq.mpr bx
       have c33b1 : (t323.toList != t327.toList) = false := bne_eq_false_iff_eq.mpr bx
       clear bx
       replace H := Option.bind_eq_some_iff.mp H
       obtain ⟨t328, A340, H⟩ := H
       (try dsimp only at H)
       have A34 := Aside0.mk A340
       clear A340
       replace H := Option.bind_eq_some_iff.mp H
       obtain ⟨t329, A350, H⟩ := H
       (try dsimp only at H)
       have A35 := Aside0.mk A350
       clear A350
       have H' := Aside0.mk H
       clear H
       try go_wp2
       replace aa := Aside0.mk (blk_drew aa.out)
       replace ab := Aside0.mk (blk_drew ab.out)
       replace HB := Aside0.mk (below_drew1 HB.out)
       refine start_ (n := 20) (S := k3ec6.S0 ac ad (.int .i64 ah) (.int .i64 ai) (.int .i64 aj) (.slice al ae.length am) (.slice an af.length ao) (.int .i64 ak) (.slice ap ag.length aq) (.int .i64 bc) (.int .i64 bd) (.int .i64 be) (.slice bg ar.length bh) (.slice bi au.length bj) (.int .i64 bf) (.slice bk av.length bl)) (ds := []) #[false, false, false, false, false, false, false, false, false, false, false, false, false, false, false, false, false, false, false, false] (by kernel_rfl) rfl rfl (k3ec6.b7 aa.out (k3ec6.b7e ab.out)) (fun hHeld => ?_); refine with_tabW whirligiglaw09_AttrTexts.tab4 whirligiglaw09_AttrTexts.bits4 (fun HT_ HW_ => ?_)
       generalize w25.drew = w36 at aa ab HB hHeld ⊢
       refine take_ (i := 0) (N := some 21) (v := ?_) (a' := ?_) #[true, false, false, false, false, false, false, false, false, false, false, false, false, false, false, false, false, false, false, false] rfl rfl (take_ofW HT_.out HW_.out (by kernel_rfl)) (fun _ _ _ h => h) (Or.inl ⟨by rfl, ?_⟩) hHeld ?_ ?_
       rotate_left
       ·rintro w' ⟨s0, s1, s2, s3, s4, s5, s6, s7, s8, s9, s10, s11, s12, s13⟩
        go_simp
        with_reducible rfl
       rotate_left
       ·simp only [Act.put, List.setIfInBounds_toArray, List.set_cons_zero, List.set_cons_succ, i64_w, i32_w]
        rfl
       refine take_ (i := 2) (N := some 23) (v := ?_) (a' := ?_) #[true, false, true, false, false, false, false, false, false, false, false, false, false, false, false, false, false, false, false, false] rfl rfl (take_ofW HT_.out HW_.out (by kernel_rfl)) (fun _ _ _ h => h) (Or.inl ⟨by rfl, ?_⟩) hHeld ?_ ?_
       rotate_left
       ·rintro w' ⟨s0, s1, s2, s3, s4, s5, s6, s7, s8, s9, s10, s11, s12, s13⟩
        go_simp
        with_reducible rfl
       rotate_left
       ·simp only [Act.put, List.setIfInBounds_toArray, List.set_cons_zero, List.set_cons_succ, i64_w, i32_w]
        rfl
       refine one_ (i := 1) (N := some 22) #[true, true, true, false, false, false, false, false, false, false, false, false, false, false, false, false, false, false, false, false] rfl rfl (one_of HT_.out (by kernel_rfl)) (by decide) (fun K hK => ?_)
       refine goes_ Try.func15 (by kernel_rfl) rfl #[.agg #[.int .i64 ah, .int .i64 ai, .int .i64 aj, .slice al ae.length am, .slice an af.length ao, .int .i64 ak, .slice ap ag.length aq]] (by rfl) rfl rfl (by (try simp only [List.map_toArray, List.map_cons, List.map_nil]); first | done | rfl) ?_
       with_reducible refine (attr_May.calls bu ah ai aj _ _ ae _ _ af ak _ _ ag t325 _ ?side1 ?side2 ?side3 ?side4 ?side5 ?side6 A26.out).mono ?_
       (case side1 | side3 | side5 => repeat (first | exact (Kd.C_below aw.out HB.out) | exact (Kd.C_below ay.out HB.out) | exact (Kd.C_below ba.out HB.out) | (with_reducible refine Kd.C_alloc ?_ _) | (with_reducible refine Kd.C_drewN ?_ _) | (with_reducible refine Kd.C_drew ?_)))
       (case side2 | side4 | side6 => first | exact ax.out | exact az.out | exact bb.out)
       rintro e w37 ⟨rfl, hb⟩
       refine ⟨_, rfl, ?_⟩
       replace aa := Aside0.mk (k3ec6.q aa.out rfl hb)
       replace ab := Aside0.mk (k3ec6.q ab.out rfl hb)
       replace HB := Aside0.mk (k3ec6.z HB.out rfl rfl rfl rfl hb)
       (try clear hb)
       (try clear bt)
       (try clear hk)
       (try clear hi)
       refine hK.out _ _ (k3ec6.b7 aa.out (k3ec6.b7e ab.out)) (fun hHeld => ?_)
       clear hK K
       refine norm_ (a' := ?_) ?_ ?_
       rotate_left
       ·show Act.put _ (some 22) _ = _
        simp only [Act.put, List.setIfInBounds_toArray, List.set_cons_zero, List.set_cons_succ, i64_w, i32_w]
        rfl
       refine one_ (i := 3) (N := some 24) #[true, true, true, true, false, false, false, false, false, false, false, false, false, false, false, false, false, false, false, false] rfl rfl (one_of HT_.out (by kernel_rfl)) (by decide) (fun K hK => ?_)
       refine goes_ Try.func16 (by kernel_rfl) rfl #[.agg #[.int .i64 ah, .int .i64 ai, .int .i64 aj, .slice al ae.length am, .slice an af.length ao, .int .i64 ak, .slice ap ag.length aq]] (by rfl) rfl rfl (by (try simp only [List.map_toArray, List.map_cons, List.map_nil]); first | done | rfl) ?_
       with_reducible refine (whirligigref09_May.calls bu ah ai aj _ _ ae _ _ af ak _ _ ag t326 _ ?side1 ?side2 ?side3 ?side4 ?side5 ?side6 A27.out).mono ?_
       (case side1 | side3 | side5 => repeat (first | exact (Kd.C_below aw.out HB.out) | exact (Kd.C_below ay.out HB.out) | exact (Kd.C_below ba.out HB.out) | (with_reducible refine Kd.C_alloc ?_ _) | (with_reducible refine Kd.C_drewN ?_ _) | (with_reducible refine Kd.C_drew ?_)))
       (case side2 | side4 | side6 => first | exact ax.out | exact az.out | exact bb.out)
       rintro e w38 ⟨rfl, hb⟩
       refine ⟨_, rfl, ?_⟩
       replace aa := Aside0.mk (k3ec6.q aa.out rfl hb)
       replace ab := Aside0.mk (k3ec6.q ab.out rfl hb)
       replace HB := Aside0.mk (k3ec6.z HB.out rfl rfl rfl rfl hb)
       (try clear hb)
       (try clear bt)
       (try clear hk)
       (try clear hi)
       refine hK.out _ _ (k3ec6.b7 aa.out (k3ec6.b7e ab.out)) (fun hHeld => ?_)
       clear hK K
       refine norm_ (a' := ?_) ?_ ?_
       rotate_left
       ·show Act.put _ (some 24) _ = _
        simp only [Act.put, List.setIfInBounds_toArray, List.set_cons_zero, List.set_cons_succ, i64_w, i32_w]
        rfl
       refine pure_ (i := 4) (N := some 25) (v := ?_) (a' := ?_) #[true, true, true, true, true, false, false, false, false, false, false, false, false, false, false, false, false, false, false, false] rfl rfl (any_of HT_.out (by kernel_rfl)) (fun _ _ _ h => h) (Or.inl ⟨by rfl, ?_⟩) ?_ ?_
       rotate_left
       ·intro w'
        go_simp
        with_reducible rfl
       rotate_left
       ·simp only [Act.put, List.setIfInBounds_toArray, List.set_cons_zero, List.set_cons_succ, i64_w, i32_w]
        rfl
       refine pure_ (i := 5) (N := some 26) (v := ?_) (a' := ?_) #[true, true, true, true, true, true, false, false, false, false, false, false, false, false, false, false, false, false, false, false] rfl rfl (any_of HT_.out (by kernel_rfl)) (fun _ _ _ h => h) (Or.inl ⟨by rfl, ?_⟩) ?_ ?_
       rotate_left
       ·intro w'
        go_simp
        with_reducible rfl
       rotate_left
       ·simp only [Act.put, List.setIfInBounds_toArray, List.set_cons_zero, List.set_cons_succ, i64_w, i32_w]
        rfl
       refine pure_ (i := 6) (N := some 27) (v := ?_) (a' := ?_) #[true, true, true, true, true, true, true, false, false, false, false, false, false, false, false, false, false, false, false, false] rfl rfl (any_of HT_.out (by kernel_rfl)) (fun _ _ _ h => h) (Or.inl ⟨by rfl, ?_⟩) ?_ ?_
       rotate_left
       ·intro w'
        go_simp
        with_reducible rfl
       rotate_left
       ·simp only [Act.put, List.setIfInBounds_toArray, List.set_cons_zero, List.set_cons_succ, i64_w, i32_w]
        rfl
       refine take_ (i := 7) (N := some 28) (v := ?_) (a' := ?_) #[true, true, true, true, true, true, true, true, false, false, false, false, false, false, false, false, false, false, false, false] rfl rfl (take_ofW HT_.out HW_.out (by kernel_rfl)) (fun _ _ _ h => h) (Or.inl ⟨by rfl, ?_⟩) hHeld ?_ ?_
       rotate_left
       ·rintro w' ⟨s0, s1, s2, s3, s4, s5, s6, s7, s8, s9, s10, s11, s12, s13⟩
        go_simp
        with_reducible rfl
       rotate_left
       ·simp only [Act.put, List.setIfInBounds_toArray, List.set_cons_zero, List.set_cons_succ, i64_w, i32_w]
        rfl
       refine one_ (i := 8) (N := some 29) #[true, true, true, true, true, true, true, true, true, false, false, false, false, false, false, false, false, false, false, false] rfl rfl (one_of HT_.out (by kernel_rfl)) (by decide) (fun K hK => ?_)
       refine goes_ Try.func17 (by kernel_rfl) rfl #[.agg #[.int .i64 ah, .int .i64 ai, .int .i64 aj, .slice al ae.length am, .slice an af.length ao, .int .i64 ak, .slice ap ag.length aq]] (by rfl) rfl rfl (by (try simp only [List.map_toArray, List.map_cons, List.map_nil]); first | done | rfl) ?_
       with_reducible refine (whirligigref09_Text.calls bu ah ai aj _ _ ae _ _ af ak _ _ ag t327 _ ?side1 ?side2 ?side3 ?side4 ?side5 ?side6 A32.out).mono ?_
       (case side1 | side3 | side5 => repeat (first | exact (Kd.C_below aw.out HB.out) | exact (Kd.C_below ay.out HB.out) | exact (Kd.C_below ba.out HB.out) | (with_reducible refine Kd.C_alloc ?_ _) | (with_reducible refine Kd.C_drewN ?_ _) | (with_reducible refine Kd.C_drew ?_)))
       (case side2 | side4 | side6 => first | exact ax.out | exact az.out | exact bb.out)
       rintro e w39 ⟨rfl, hb⟩
       refine ⟨_, rfl, ?_⟩
       replace aa := Aside0.mk (k3ec6.q aa.out rfl hb)
       replace ab := Aside0.mk (k3ec6.q ab.out rfl hb)
       replace HB := Aside0.mk (k3ec6.z HB.out rfl rfl rfl rfl hb)
       (try clear hb)
       (try clear bt)
       (try clear hk)
       (try clear hi)
       refine hK.out _ _ (k3ec6.b7 aa.out (k3ec6.b7e ab.out)) (fun hHeld => ?_)
       clear hK K
       refine norm_ (a' := ?_) ?_ ?_
       rotate_left
       ·show Act.put _ (some 29) _ = _
        simp only [Act.put, List.setIfInBounds_toArray, List.set_cons_zero, List.set_cons_succ, i64_w, i32_w]
        rfl
       refine pure_ (i := 9) (N := some 30) (v := ?_) (a' := ?_) #[true, true, true, true, true, true, true, true, true, true, false, false, false, false, false, false, false, false, false, false] rfl rfl (any_of HT_.out (by kernel_rfl)) (fun _ _ _ h => h) (Or.inl ⟨by rfl, ?_⟩) ?_ ?_
       rotate_left
       ·intro w'
        go_simp
        with_reducible rfl
       rotate_left
       ·simp only [Act.put, List.setIfInBounds_toArray, List.set_cons_zero, List.set_cons_succ, i64_w, i32_w]
        rfl
       refine pure_ (i := 10) (N := some 31) (v := ?_) (a' := ?_) #[true, true, true, true, true, true, true, true, true, true, true, false, false, false, false, false, false, false, false, false] rfl rfl (any_of HT_.out (by kernel_rfl)) (fun _ _ _ h => h) (Or.inl ⟨by rfl, ?_⟩) ?_ ?_
       rotate_left
       ·intro w'
        go_simp
        with_reducible rfl
       rotate_left
       ·simp only [Act.put, List.setIfInBounds_toArray, List.set_cons_zero, List.set_cons_succ, i64_w, i32_w]
        rfl
       refine pure_ (i := 11) (N := some 32) (v := ?_) (a' := ?_) #[true, true, true, true, true, true, true, true, true, true, true, true, false, false, false, false, false, false, false, false] rfl rfl (any_of HT_.out (by kernel_rfl)) (fun _ _ _ h => h) (Or.inl ⟨by rfl, ?_⟩) ?_ ?_
       rotate_left
       ·intro w'
        go_simp
        with_reducible rfl
       rotate_left
       ·simp only [Act.put, List.setIfInBounds_toArray, List.set_cons_zero, List.set_cons_succ, i64_w, i32_w]
        rfl
       refine take_ (i := 12) (N := some 33) (v := ?_) (a' := ?_) #[true, true, true, true, true, true, true, true, true, true, true, true, true, false, false, false, false, false, false, false] rfl rfl (take_ofW HT_.out HW_.out (by kernel_rfl)) (fun _ _ _ h => h) (Or.inl ⟨by rfl, ?_⟩) hHeld ?_ ?_
       rotate_left
       ·rintro w' ⟨s0, s1, s2, s3, s4, s5, s6, s7, s8, s9, s10, s11, s12, s13⟩
        go_simp
        with_reducible rfl
       rotate_left
       ·simp only [Act.put, List.setIfInBounds_toArray, List.set_cons_zero, List.set_cons_succ, i64_w, i32_w]
        rfl
       refine take_ (i := 13) (N := some 34) (v := ?_) (a' := ?_) #[true, true, true, true, true, true, true, true, true, true, true, true, true, true, false, false, false, false, false, false] rfl rfl (take_ofW HT_.out HW_.out (by kernel_rfl)) (fun _ _ _ h => h) (Or.inl ⟨by rfl, ?_⟩) hHeld ?_ ?_
       rotate_left
       ·rintro w' ⟨s0, s1, s2, s3, s4, s5, s6, s7, s8, s9, s10, s11, s12, s13⟩
        go_simp
        with_reducible rfl
       rotate_left
       ·simp only [Act.put, List.setIfInBounds_toArray, List.set_cons_zero, List.set_cons_succ, i64_w, i32_w]
        rfl
       refine take_ (i := 15) (N := some 36) (v := ?_) (a' := ?_) #[true, true, true, true, true, true, true, true, true, true, true, true, true, true, false, true, false, false, false, false] rfl rfl (take_ofW HT_.out HW_.out (by kernel_rfl)) (fun _ _ _ h => h) (Or.inl ⟨by rfl, ?_⟩) hHeld ?_ ?_
       rotate_left
       ·rintro w' ⟨s0, s1, s2, s3, s4, s5, s6, s7, s8, s9, s10, s11, s12, s13⟩
        go_simp
        with_reducible rfl
       rotate_left
       ·simp only [Act.put, List.setIfInBounds_toArray, List.set_cons_zero, List.set_cons_succ, i64_w, i32_w]
        rfl
       refine take_ (i := 16) (N := some 37) (v := ?_) (a' := ?_) #[true, true, true, true, true, true, true, true, true, true, true, true, true, true, false, true, true, false, false, false] rfl rfl (take_ofW HT_.out HW_.out (by kernel_rfl)) (fun _ _ _ h => h) (Or.inl ⟨by rfl, ?_⟩) hHeld ?_ ?_
       rotate_left
       ·rintro w' ⟨s0, s1, s2, s3, s4, s5, s6, s7, s8, s9, s10, s11, s12, s13⟩
        go_simp
        with_reducible rfl
       rotate_left
       ·simp only [Act.put, List.setIfInBounds_toArray, List.set_cons_zero, List.set_cons_succ, i64_w, i32_w]
        rfl
       refine one_ (i := 14) (N := some 35) #[true, true, true, true, true, true, true, true, true, true, true, true, true, true, true, true, true, false, false, false] rfl rfl (one_of HT_.out (by kernel_rfl)) (by decide) (fun K hK => ?_)
       refine goes_ Try.func18 (by kernel_rfl) rfl #[.agg #[.int .i64 ah, .int .i64 ai, .int .i64 aj, .slice al ae.length am, .slice an af.length ao, .int .i64 ak, .slice ap ag.length aq], .agg #[.int .i64 bc, .int .i64 bd, .int .i64 be, .slice bg ar.length bh, .slice bi au.length bj, .int .i64 bf, .slice bk av.length bl]] (by rfl) rfl rfl (by (try simp only [List.map_toArray, List.map_cons, List.map_nil]); first | done | rfl) ?_
       with_reducible refine (attr_Same.calls bu ah ai aj _ _ ae _ _ af ak _ _ ag bc bd be _ _ ar _ _ au bf _ _ av t328 _ ?side1 ?side2 ?side3 ?side4 ?side5 ?side6 ?side7 ?side8 ?side9 ?side10 ?side11 ?side12 A34.out).mono ?_
       (case side1 | side3 | side5 | side7 | side9 | side11 => repeat (first | exact (Kd.C_below aw.out HB.out) | exact (Kd.C_below ay.out HB.out) | exact (Kd.C_below ba.out HB.out) | exact (Kd.C_below bm.out HB.out) | exact (Kd.C_below bo.out HB.out) | exact (Kd.C_below bq.out HB.out) | (with_reducible refine Kd.C_alloc ?_ _) | (with_reducible refine Kd.C_drewN ?_ _) | (with_reducible refine Kd.C_drew ?_)))
       (case side2 | side4 | side6 | side8 | side10 | side12 => first | exact ax.out | exact az.out | exact bb.out | exact bn.out | exact bp.out | exact br.out)
       rintro e w40 ⟨rfl, hb⟩
       refine ⟨_, rfl, ?_⟩
       replace aa := Aside0.mk (k3ec6.q aa.out rfl hb)
       replace ab := Aside0.mk (k3ec6.q ab.out rfl hb)
       replace HB := Aside0.mk (k3ec6.z HB.out rfl rfl rfl rfl hb)
       (try clear hb)
       (try clear bt)
       (try clear hk)
       (try clear hi)
       refine hK.out _ _ (k3ec6.b7 aa.out (k3ec6.b7e ab.out)) (fun hHeld => ?_)
       clear hK K
       refine norm_ (a' := ?_) ?_ ?_
       rotate_left
       ·show Act.put _ (some 35) _ = _
        simp only [Act.put, List.setIfInBounds_toArray, List.set_cons_zero, List.set_cons_succ, i64_w, i32_w]
        rfl
       refine one_ (i := 17) (N := some 38) #[true, true, true, true, true, true, true, true, true, true, true, true, true, true, true, true, true, true, false, false] rfl rfl (one_of HT_.out (by kernel_rfl)) (by decide) (fun K hK => ?_)
       refine goes_ Try.func19 (by kernel_rfl) rfl #[.agg #[.int .i64 ah, .int .i64 ai, .int .i64 aj, .slice al ae.length am, .slice an af.length ao, .int .i64 ak, .slice ap ag.length aq], .agg #[.int .i64 bc, .int .i64 bd, .int .i64 be, .slice bg ar.length bh, .slice bi au.length bj, .int .i64 bf, .slice bk av.length bl]] (by rfl) rfl rfl (by (try simp only [List.map_toArray, List.map_cons, List.map_nil]); first | done | rfl) ?_
       with_reducible refine (whirligigref09_Same.calls bu ah ai aj _ _ ae _ _ af ak _ _ ag bc bd be _ _ ar _ _ au bf _ _ av t329 _ ?side1 ?side2 ?side3 ?side4 ?side5 ?side6 ?side7 ?side8 ?side9 ?side10 ?side11 ?side12 A35.out).mono ?_
       (case side1 | side3 | side5 | side7 | side9 | side11 => repeat (first | exact (Kd.C_below aw.out HB.out) | exact (Kd.C_below ay.out HB.out) | exact (Kd.C_below ba.out HB.out) | exact (Kd.C_below bm.out HB.out) | exact (Kd.C_below bo.out HB.out) | exact (Kd.C_below bq.out HB.out) | (with_reducible refine Kd.C_alloc ?_ _) | (with_reducible refine Kd.C_drewN ?_ _) | (with_reducible refine Kd.C_drew ?_)))
       (case side2 | side4 | side6 | side8 | side10 | side12 => first | exact ax.out | exact az.out | exact bb.out | exact bn.out | exact bp.out | exact br.out)
       rintro e w41 ⟨rfl, hb⟩
       refine ⟨_, rfl, ?_⟩
       replace aa := Aside0.mk (k3ec6.q aa.out rfl hb)
       replace ab := Aside0.mk (k3ec6.q ab.out rfl hb)
       replace HB := Aside0.mk (k3ec6.z HB.out rfl rfl rfl rfl hb)
       (try clear hb)
       (try clear bt)
       (try clear hk)
       (try clear hi)
       refine hK.out _ _ (k3ec6.b7 aa.out (k3ec6.b7e ab.out)) (fun hHeld => ?_)
       clear hK K
       refine norm_ (a' := ?_) ?_ ?_
       rotate_left
       ·show Act.put _ (some 38) _ = _
        simp only [Act.put, List.setIfInBounds_toArray, List.set_cons_zero, List.set_cons_succ, i64_w, i32_w]
        rfl
       refine pure_ (i := 18) (N := some 39) (v := ?_) (a' := ?_) #[true, true, true, true, true, true, true, true, true, true, true, true, true, true, true, true, true, true, true, false] rfl rfl (any_of HT_.out (by kernel_rfl)) (fun _ _ _ h => h) (Or.inl ⟨by rfl, ?_⟩) ?_ ?_
       rotate_left
       ·intro w'
        go_simp
        with_reducible rfl
       rotate_left
       ·simp only [Act.put, List.setIfInBounds_toArray, List.set_cons_zero, List.set_cons_succ, i64_w, i32_w]
        rfl
       refine pure_ (i := 19) (N := some 40) (v := ?_) (a' := ?_) #[true, true, true, true, true, true, true, true, true, true, true, true, true, true, true, true, true, true, true, true] rfl rfl (any_of HT_.out (by kernel_rfl)) (fun _ _ _ h => h) (Or.inl ⟨by rfl, ?_⟩) ?_ ?_
       rotate_left
       ·intro w'
        go_simp
        with_reducible rfl
       rotate_left
       ·simp only [Act.put, List.setIfInBounds_toArray, List.set_cons_zero, List.set_cons_succ, i64_w, i32_w]
        rfl
       refine done_ (done_of HT_.out (by kernel_rfl)) ?_
       try go_wp2
       go_meet
       case rel => exact ⟨_, ((t328 != t329)), (by first | rfl | (simp; done) | (simp [*]; done)), H', ⟨by have := HJ2.out; first | omega | exact Nat.le_refl _⟩, ⟨by (with_reducible repeat (first | refine blk_drewN ?_ _ | refine blk_drew ?_ | refine blk_alloc ?_ _)); exact aa.out⟩, ⟨by (with_reducible repeat (first | refine blk_drewN ?_ _ | refine blk_drew ?_ | refine blk_alloc ?_ _)); exact ab.out⟩, ⟨by repeat (first | (with_reducible first | exact HB.out | apply below_alloc | apply pw_below_drewN | apply below_drew1) | exact HB.out)⟩⟩
      ·rw [if_neg bx] at H
       have c33b0 : (t323.toList == t327.toList) = false := beq_eq_false_iff_ne.mpr bx
       have c33b1 : (t323.toList != t327.toList) = true := bne_iff_ne.mpr bx
       have H' := Aside0.mk H
       clear H
       try go_wp2
       replace aa := Aside0.mk (blk_drew aa.out)
       replace ab := Aside0.mk (blk_drew ab.out)
       replace HB := Aside0.mk (below_drew1 HB.out)
       refine start_ (n := 20) (S := k3ec6.S1 ac (.int .i64 ah) (.int .i64 ai) (.int .i64 aj) (.slice al ae.length am) (.slice an af.length ao) (.int .i64 ak) (.slice ap ag.length aq)) (ds := []) #[false, false, false, false, false, false, false, false, false, false, false, false, false, false, false, false, false, false, false, false] (by kernel_rfl) rfl rfl (k3ec6.b7e aa.out) (fun hHeld => ?_); refine with_tabW whirligiglaw09_AttrTexts.tab4 whirligiglaw09_AttrTexts.bits4 (fun HT_ HW_ => ?_)
       generalize w25.drew = w42 at aa ab HB hHeld ⊢
       refine take_ (i := 0) (N := some 21) (v := ?_) (a' := ?_) #[true, false, false, false, false, false, false, false, false, false, false, false, false, false, false, false, false, false, false, false] rfl rfl (take_ofW HT_.out HW_.out (by kernel_rfl)) (fun _ _ _ h => h) (Or.inl ⟨by rfl, ?_⟩) hHeld ?_ ?_
       rotate_left
       ·rintro w' ⟨s0, s1, s2, s3, s4, s5, s6⟩
        go_simp
        with_reducible rfl
       rotate_left
       ·simp only [Act.put, List.setIfInBounds_toArray, List.set_cons_zero, List.set_cons_succ, i64_w, i32_w]
        rfl
       refine take_ (i := 2) (N := some 23) (v := ?_) (a' := ?_) #[true, false, true, false, false, false, false, false, false, false, false, false, false, false, false, false, false, false, false, false] rfl rfl (take_ofW HT_.out HW_.out (by kernel_rfl)) (fun _ _ _ h => h) (Or.inl ⟨by rfl, ?_⟩) hHeld ?_ ?_
       rotate_left
       ·rintro w' ⟨s0, s1, s2, s3, s4, s5, s6⟩
        go_simp
        with_reducible rfl
       rotate_left
       ·simp only [Act.put, List.setIfInBounds_toArray, List.set_cons_zero, List.set_cons_succ, i64_w, i32_w]
        rfl
       refine one_ (i := 1) (N := some 22) #[true, true, true, false, false, false, false, false, false, false, false, false, false, false, false, false, false, false, false, false] rfl rfl (one_of HT_.out (by kernel_rfl)) (by decide) (fun K hK => ?_)
       refine goes_ Try.func15 (by kernel_rfl) rfl #[.agg #[.int .i64 ah, .int .i64 ai, .int .i64 aj, .slice al ae.length am, .slice an af.length ao, .int .i64 ak, .slice ap ag.length aq]] (by rfl) rfl rfl (by (try simp only [List.map_toArray, List.map_cons, List.map_nil]); first | done | rfl) ?_
       with_reducible refine (attr_May.calls bu ah ai aj _ _ ae _ _ af ak _ _ ag t325 _ ?side1 ?side2 ?side3 ?side4 ?side5 ?side6 A26.out).mono ?_
       (case side1 | side3 | side5 => repeat (first | exact (Kd.C_below aw.out HB.out) | exact (Kd.C_below ay.out HB.out) | exact (Kd.C_below ba.out HB.out) | (with_reducible refine Kd.C_alloc ?_ _) | (with_reducible refine Kd.C_drewN ?_ _) | (with_reducible refine Kd.C_drew ?_)))
       (case side2 | side4 | side6 => first | exact ax.out | exact az.out | exact bb.out)
       rintro e w43 ⟨rfl, hb⟩
       refine ⟨_, rfl, ?_⟩
       replace aa := Aside0.mk (k3ec6.q aa.out rfl hb)
       replace ab := Aside0.mk (k3ec6.q ab.out rfl hb)
       replace HB := Aside0.mk (k3ec6.z HB.out rfl rfl rfl rfl hb)
       (try clear hb)
       (try clear bt)
       (try clear hk)
       (try clear hi)
       refine hK.out _ _ (k3ec6.b7e aa.out) (fun hHeld => ?_)
       clear hK K
       refine norm_ (a' := ?_) ?_ ?_
       rotate_left
       ·show Act.put _ (some 22) _ = _
        simp only [Act.put, List.setIfInBounds_toArray, List.set_cons_zero, List.set_cons_succ, i64_w, i32_w]
        rfl
       refine one_ (i := 3) (N := some 24) #[true, true, true, true, false, false, false, false, false, false, false, false, false, false, false, false, false, false, false, false] rfl rfl (one_of HT_.out (by kernel_rfl)) (by decide) (fun K hK => ?_)
       refine goes_ Try.func16 (by kernel_rfl) rfl #[.agg #[.int .i64 ah, .int .i64 ai, .int .i64 aj, .slice al ae.length am, .slice an af.length ao, .int .i64 ak, .slice ap ag.length aq]] (by rfl) rfl rfl (by (try simp only [List.map_toArray, List.map_cons, List.map_nil]); first | done | rfl) ?_
       with_reducible refine (whirligigref09_May.calls bu ah ai aj _ _ ae _ _ af ak _ _ ag t326 _ ?side1 ?side2 ?side3 ?side4 ?side5 ?side6 A27.out).mono ?_
       (case side1 | side3 | side5 => repeat (first | exact (Kd.C_below aw.out HB.out) | exact (Kd.C_below ay.out HB.out) | exact (Kd.C_below ba.out HB.out) | (with_reducible refine Kd.C_alloc ?_ _) | (with_reducible refine Kd.C_drewN ?_ _) | (with_reducible refine Kd.C_drew ?_)))
       (case side2 | side4 | side6 => first | exact ax.out | exact az.out | exact bb.out)
       rintro e w44 ⟨rfl, hb⟩
       refine ⟨_, rfl, ?_⟩
       replace aa := Aside0.mk (k3ec6.q aa.out rfl hb)
       replace ab := Aside0.mk (k3ec6.q ab.out rfl hb)
       replace HB := Aside0.mk (k3ec6.z HB.out rfl rfl rfl rfl hb)
       (try clear hb)
       (try clear bt)
       (try clear hk)
       (try clear hi)
       refine hK.out _ _ (k3ec6.b7e aa.out) (fun hHeld => ?_)
       clear hK K
       refine norm_ (a' := ?_) ?_ ?_
       rotate_left
       ·show Act.put _ (some 24) _ = _
        simp only [Act.put, List.setIfInBounds_toArray, List.set_cons_zero, List.set_cons_succ, i64_w, i32_w]
        rfl
       refine pure_ (i := 4) (N := some 25) (v := ?_) (a' := ?_) #[true, true, true, true, true, false, false, false, false, false, false, false, false, false, false, false, false, false, false, false] rfl rfl (any_of HT_.out (by kernel_rfl)) (fun _ _ _ h => h) (Or.inl ⟨by rfl, ?_⟩) ?_ ?_
       rotate_left
       ·intro w'
        go_simp
        with_reducible rfl
       rotate_left
       ·simp only [Act.put, List.setIfInBounds_toArray, List.set_cons_zero, List.set_cons_succ, i64_w, i32_w]
        rfl
       refine pure_ (i := 5) (N := some 26) (v := ?_) (a' := ?_) #[true, true, true, true, true, true, false, false, false, false, false, false, false, false, false, false, false, false, false, false] rfl rfl (any_of HT_.out (by kernel_rfl)) (fun _ _ _ h => h) (Or.inl ⟨by rfl, ?_⟩) ?_ ?_
       rotate_left
       ·intro w'
        go_simp
        with_reducible rfl
       rotate_left
       ·simp only [Act.put, List.setIfInBounds_toArray, List.set_cons_zero, List.set_cons_succ, i64_w, i32_w]
        rfl
       refine pure_ (i := 6) (N := some 27) (v := ?_) (a' := ?_) #[true, true, true, true, true, true, true, false, false, false, false, false, false, false, false, false, false, false, false, false] rfl rfl (any_of HT_.out (by kernel_rfl)) (fun _ _ _ h => h) (Or.inl ⟨by rfl, ?_⟩) ?_ ?_
       rotate_left
       ·intro w'
        go_simp
        with_reducible rfl
       rotate_left
       ·simp only [Act.put, List.setIfInBounds_toArray, List.set_cons_zero, List.set_cons_succ, i64_w, i32_w]
        rfl
       refine take_ (i := 7) (N := some 28) (v := ?_) (a' := ?_) #[true, true, true, true, true, true, true, true, false, false, false, false, false, false, false, false, false, false, false, false] rfl rfl (take_ofW HT_.out HW_.out (by kernel_rfl)) (fun _ _ _ h => h) (Or.inl ⟨by rfl, ?_⟩) hHeld ?_ ?_
       rotate_left
       ·rintro w' ⟨s0, s1, s2, s3, s4, s5, s6⟩
        go_simp
        with_reducible rfl
       rotate_left
       ·simp only [Act.put, List.setIfInBounds_toArray, List.set_cons_zero, List.set_cons_succ, i64_w, i32_w]
        rfl
       refine one_ (i := 8) (N := some 29) #[true, true, true, true, true, true, true, true, true, false, false, false, false, false, false, false, false, false, false, false] rfl rfl (one_of HT_.out (by kernel_rfl)) (by decide) (fun K hK => ?_)
       refine goes_ Try.func17 (by kernel_rfl) rfl #[.agg #[.int .i64 ah, .int .i64 ai, .int .i64 aj, .slice al ae.length am, .slice an af.length ao, .int .i64 ak, .slice ap ag.length aq]] (by rfl) rfl rfl (by (try simp only [List.map_toArray, List.map_cons, List.map_nil]); first | done | rfl) ?_
       with_reducible refine (whirligigref09_Text.calls bu ah ai aj _ _ ae _ _ af ak _ _ ag t327 _ ?side1 ?side2 ?side3 ?side4 ?side5 ?side6 A32.out).mono ?_
       (case side1 | side3 | side5 => repeat (first | exact (Kd.C_below aw.out HB.out) | exact (Kd.C_below ay.out HB.out) | exact (Kd.C_below ba.out HB.out) | (with_reducible refine Kd.C_alloc ?_ _) | (with_reducible refine Kd.C_drewN ?_ _) | (with_reducible refine Kd.C_drew ?_)))
       (case side2 | side4 | side6 => first | exact ax.out | exact az.out | exact bb.out)
       rintro e w45 ⟨rfl, hb⟩
       refine ⟨_, rfl, ?_⟩
       replace aa := Aside0.mk (k3ec6.q aa.out rfl hb)
       replace ab := Aside0.mk (k3ec6.q ab.out rfl hb)
       replace HB := Aside0.mk (k3ec6.z HB.out rfl rfl rfl rfl hb)
       (try clear hb)
       (try clear bt)
       (try clear hk)
       (try clear hi)
       refine hK.out _ _ (k3ec6.b7e aa.out) (fun hHeld => ?_)
       clear hK K
       refine norm_ (a' := ?_) ?_ ?_
       rotate_left
       ·show Act.put _ (some 29) _ = _
        simp only [Act.put, List.setIfInBounds_toArray, List.set_cons_zero, List.set_cons_succ, i64_w, i32_w]
        rfl
       refine pure_ (i := 9) (N := some 30) (v := ?_) (a' := ?_) #[true, true, true, true, true, true, true, true, true, true, false, false, false, false, false, false, false, false, false, false] rfl rfl (any_of HT_.out (by kernel_rfl)) (fun _ _ _ h => h) (Or.inl ⟨by rfl, ?_⟩) ?_ ?_
       rotate_left
       ·intro w'
        go_simp
        with_reducible rfl
       rotate_left
       ·simp only [Act.put, List.setIfInBounds_toArray, List.set_cons_zero, List.set_cons_succ, i64_w, i32_w]
        rfl
       refine pure_ (i := 10) (N := some 31) (v := ?_) (a' := ?_) #[true, true, true, true, true, true, true, true, true, true, true, false, false, false, false, false, false, false, false, false] rfl rfl (any_of HT_.out (by kernel_rfl)) (fun _ _ _ h => h) (Or.inl ⟨by rfl, ?_⟩) ?_ ?_
       rotate_left
       ·intro w'
        go_simp
        with_reducible rfl
       rotate_left
       ·simp only [Act.put, List.setIfInBounds_toArray, List.set_cons_zero, List.set_cons_succ, i64_w, i32_w]
        rfl
       refine pure_ (i := 11) (N := some 32) (v := ?_) (a' := ?_) #[true, true, true, true, true, true, true, true, true, true, true, true, false, false, false, false, false, false, false, false] rfl rfl (any_of HT_.out (by kernel_rfl)) (fun _ _ _ h => h) (Or.inl ⟨by rfl, ?_⟩) ?_ ?_
       rotate_left
       ·intro w'
        go_simp
        with_reducible rfl
       rotate_left
       ·simp only [Act.put, List.setIfInBounds_toArray, List.set_cons_zero, List.set_cons_succ, i64_w, i32_w]
        rfl
       refine pure_ (i := 12) (N := some 33) (v := undef) (a' := ?_) #[true, true, true, true, true, true, true, true, true, true, true, true, true, false, false, false, false, false, false, false] rfl rfl (any_of HT_.out (by kernel_rfl)) (fun _ _ _ h => h) (Or.inr ⟨by rfl, rfl⟩) ?_ ?_
       rotate_left
       ·simp only [Act.put, List.setIfInBounds_toArray, List.set_cons_zero, List.set_cons_succ, i64_w, i32_w]
        rfl
       refine pure_ (i := 13) (N := some 34) (v := undef) (a' := ?_) #[true, true, true, true, true, true, true, true, true, true, true, true, true, true, false, false, false, false, false, false] rfl rfl (any_of HT_.out (by kernel_rfl)) (fun _ _ _ h => h) (Or.inr ⟨by rfl, rfl⟩) ?_ ?_
       rotate_left
       ·simp only [Act.put, List.setIfInBounds_toArray, List.set_cons_zero, List.set_cons_succ, i64_w, i32_w]
        rfl
       refine pure_ (i := 14) (N := some 35) (v := undef) (a' := ?_) #[true, true, true, true, true, true, true, true, true, true, true, true, true, true, true, false, false, false, false, false] rfl rfl (any_of HT_.out (by kernel_rfl)) (fun _ _ _ h => h) (Or.inr ⟨by rfl, rfl⟩) ?_ ?_
       rotate_left
       ·simp only [Act.put, List.setIfInBounds_toArray, List.set_cons_zero, List.set_cons_succ, i64_w, i32_w]
        rfl
       refine pure_ (i := 15) (N := some 36) (v := undef) (a' := ?_) #[true, true, true, true, true, true, true, true, true, true, true, true, true, true, true, true, false, false, false, false] rfl rfl (any_of HT_.out (by kernel_rfl)) (fun _ _ _ h => h) (Or.inr ⟨by rfl, rfl⟩) ?_ ?_
       rotate_left
       ·simp only [Act.put, List.setIfInBounds_toArray, List.set_cons_zero, List.set_cons_succ, i64_w, i32_w]
        rfl
       refine pure_ (i := 16) (N := some 37) (v := undef) (a' := ?_) #[true, true, true, true, true, true, true, true, true, true, true, true, true, true, true, true, true, false, false, false] rfl rfl (any_of HT_.out (by kernel_rfl)) (fun _ _ _ h => h) (Or.inr ⟨by rfl, rfl⟩) ?_ ?_
       rotate_left
       ·simp only [Act.put, List.setIfInBounds_toArray, List.set_cons_zero, List.set_cons_succ, i64_w, i32_w]
        rfl
       refine pure_ (i := 17) (N := some 38) (v := undef) (a' := ?_) #[true, true, true, true, true, true, true, true, true, true, true, true, true, true, true, true, true, true, false, false] rfl rfl (any_of HT_.out (by kernel_rfl)) (fun _ _ _ h => h) (Or.inr ⟨by rfl, rfl⟩) ?_ ?_
       rotate_left
       ·simp only [Act.put, List.setIfInBounds_toArray, List.set_cons_zero, List.set_cons_succ, i64_w, i32_w]
        rfl
       refine pure_ (i := 18) (N := some 39) (v := undef) (a' := ?_) #[true, true, true, true, true, true, true, true, true, true, true, true, true, true, true, true, true, true, true, false] rfl rfl (any_of HT_.out (by kernel_rfl)) (fun _ _ _ h => h) (Or.inr ⟨by rfl, rfl⟩) ?_ ?_
       rotate_left
       ·simp only [Act.put, List.setIfInBounds_toArray, List.set_cons_zero, List.set_cons_succ, i64_w, i32_w]
        rfl
       refine pure_ (i := 19) (N := some 40) (v := ?_) (a' := ?_) #[true, true, true, true, true, true, true, true, true, true, true, true, true, true, true, true, true, true, true, true] rfl rfl (any_of HT_.out (by kernel_rfl)) (fun _ _ _ h => h) (Or.inl ⟨by rfl, ?_⟩) ?_ ?_
       rotate_left
       ·intro w'
        go_simp
        with_reducible rfl
       rotate_left
       ·simp only [Act.put, List.setIfInBounds_toArray, List.set_cons_zero, List.set_cons_succ, i64_w, i32_w]
        rfl
       refine done_ (done_of HT_.out (by kernel_rfl)) ?_
       try go_wp2
       go_meet
       case rel => exact ⟨_, (true), (by first | rfl | (simp; done) | (simp [*]; done)), H', ⟨by have := HJ2.out; first | omega | exact Nat.le_refl _⟩, ⟨by (with_reducible repeat (first | refine blk_drewN ?_ _ | refine blk_drew ?_ | refine blk_alloc ?_ _)); exact aa.out⟩, ⟨by (with_reducible repeat (first | refine blk_drewN ?_ _ | refine blk_drew ?_ | refine blk_alloc ?_ _)); exact ab.out⟩, ⟨by repeat (first | (with_reducible first | exact HB.out | apply below_alloc | apply pw_below_drewN | apply below_drew1) | exact HB.out)⟩⟩
    case rest =>
     clear HC22
     try clear c1
     try clear c2
     try clear p2
     try clear c3
     try clear c15
     try clear c16
     try clear c17
     try clear c18
     try clear c19
     try clear bv
     try clear c28b0
     try clear c28b1
     try clear c28b2
     try clear bx
     try clear c33b0
     try clear c33b1
     obtain ⟨kq, x40_21, rfl, HA, HJ21, aa, ab, HB⟩ := hcut
     cases kq with
     | zero => exact absurd HA.out (by simp [whirligiglaw09_AttrTexts.j1])
     | succ bs =>
      have H := HA.out
      clear HA
      simp only [whirligiglaw09_AttrTexts.j1] at H
      by_cases c46 : x40_21 = true
      ·subst c46
       have H1 : (some false) = some r := by rw [if_pos rfl] at H; exact H
       clear H
       have H := H1
       clear H1
       obtain rfl := Option.some.inj H
       go_wp2
       go_ret
       exact ⟨by first | rfl | (simp [errW_none, errW_some] <;> rfl) | (simp [*, errW_none, errW_some] <;> rfl), by repeat (first | (with_reducible first | exact HB.out | apply below_alloc | apply pw_below_drewN | apply below_drew1) | exact HB.out)⟩
      ·replace c46 := Bool.eq_false_iff.mpr c46
       subst c46
       have H1 := H
       rw [if_neg (show ¬ (false = true) by decide)] at H1
       clear H
       have H := H1
       clear H1
       replace H := Option.bind_eq_some_iff.mp H
       obtain ⟨t330, A470, H⟩ := H
       (try dsimp only at H)
       have A47 := Aside0.mk A470
       clear A470
       by_cases c48 : t330 = true
       ·subst c48
        have H1 := H
        rw [if_pos rfl] at H1
        clear H
        have H := H1
        clear H1
        replace H := Option.bind_eq_some_iff.mp H
        obtain ⟨t331, A490, H⟩ := H
        (try dsimp only at H)
        have A49 := Aside0.mk A490
        clear A490
        by_cases c50 : t331 = true
        ·subst c50
         have H1 := H
         rw [if_pos rfl] at H1
         clear H
         have H := H1
         clear H1
         replace H := Option.bind_eq_some_iff.mp H
         obtain ⟨t332, A510, H⟩ := H
         (try dsimp only at H)
         have A51 := Aside0.mk A510
         clear A510
         by_cases bw : ((t323.toList == t324.toList) == t332) = true
         ·rw [if_pos bw] at H
          have c52b0 : ((t323.toList == t324.toList) == t332) = true := bw
          (try (have c52b1 : decide ((t323.toList == t324.toList) = t332) = true := by simpa using bw))
          (try (have c52b2 : ((t323.toList == t324.toList) == t332) = true := by simpa using bw))
          clear bw
          replace H := Option.bind_eq_some_iff.mp H
          obtain ⟨t333, A530, H⟩ := H
          replace H : (some t333) = some r := H
          have A53 := Aside0.mk A530
          clear A530
          obtain rfl := Option.some.inj H
          have hnb54 := NB318_319.out
          have hnc54 := NB319_318.out
          have hcz55_0 : wc.cell? ⟨ac, 0, none⟩ = some (.int .i64 ah) := (blk_cell aa.out 0).trans rfl
          have hcz55_1 : wc.cell? ⟨ac, 1, none⟩ = some (.int .i64 ai) := (blk_cell aa.out 1).trans rfl
          have hcz55_2 : wc.cell? ⟨ac, 2, none⟩ = some (.int .i64 aj) := (blk_cell aa.out 2).trans rfl
          have hcz55_3 : wc.cell? ⟨ac, 3, none⟩ = some (.slice al ae.length am) := (blk_cell aa.out 3).trans rfl
          have hcz55_4 : wc.cell? ⟨ac, 4, none⟩ = some (.slice an af.length ao) := (blk_cell aa.out 4).trans rfl
          have hcz55_5 : wc.cell? ⟨ac, 5, none⟩ = some (.int .i64 ak) := (blk_cell aa.out 5).trans rfl
          have hcz55_6 : wc.cell? ⟨ac, 6, none⟩ = some (.slice ap ag.length aq) := (blk_cell aa.out 6).trans rfl
          have hfz55_0 := blk_frozen aa.out 0
          have hfz55_1 := blk_frozen aa.out 1
          have hfz55_2 := blk_frozen aa.out 2
          have hfz55_3 := blk_frozen aa.out 3
          have hfz55_4 := blk_frozen aa.out 4
          have hfz55_5 := blk_frozen aa.out 5
          have hfz55_6 := blk_frozen aa.out 6
          go_wp2_with (first | ((with_reducible refine gate_callee (f := 16) rfl ?_); refine goesL_ (some 42) rfl rfl Try.func16 (by kernel_rfl) rfl #[.agg #[.int .i64 ah, .int .i64 ai, .int .i64 aj, .slice al ae.length am, .slice an af.length ao, .int .i64 ak, .slice ap ag.length aq]] rfl (by (try simp only [List.map_toArray, List.map_cons, List.map_nil]); first | done | rfl) ?_; (with_reducible refine (whirligigref09_May.calls bs ah ai aj _ _ ae _ _ af ak _ _ ag true _ ?side1 ?side2 ?side3 ?side4 ?side5 ?side6 A47.out).mono ?_); (case side1 | side3 | side5 => repeat (first | exact (Kd.C_below aw.out HB.out) | exact (Kd.C_below ay.out HB.out) | exact (Kd.C_below ba.out HB.out) | (with_reducible refine Kd.C_alloc ?_ _) | (with_reducible refine Kd.C_drewN ?_ _) | (with_reducible refine Kd.C_drew ?_))); (case side2 | side4 | side6 => first | exact ax.out | exact az.out | exact bb.out); rintro e w56 ⟨rfl, hb⟩; refine ⟨_, rfl, ?_⟩; replace aa := Aside0.mk (k3ec6.q aa.out rfl hb); replace ab := Aside0.mk (k3ec6.q ab.out rfl hb); replace HB := Aside0.mk (k3ec6.z HB.out rfl rfl rfl rfl hb); (try clear hb); (try clear bt); (try clear hk); (try clear hi); have hcz57_0 : w56.cell? ⟨ad, 0, none⟩ = some (.int .i64 bc) := (blk_cell ab.out 0).trans rfl; have hcz57_1 : w56.cell? ⟨ad, 1, none⟩ = some (.int .i64 bd) := (blk_cell ab.out 1).trans rfl; have hcz57_2 : w56.cell? ⟨ad, 2, none⟩ = some (.int .i64 be) := (blk_cell ab.out 2).trans rfl; have hcz57_3 : w56.cell? ⟨ad, 3, none⟩ = some (.slice bg ar.length bh) := (blk_cell ab.out 3).trans rfl; have hcz57_4 : w56.cell? ⟨ad, 4, none⟩ = some (.slice bi au.length bj) := (blk_cell ab.out 4).trans rfl; have hcz57_5 : w56.cell? ⟨ad, 5, none⟩ = some (.int .i64 bf) := (blk_cell ab.out 5).trans rfl; have hcz57_6 : w56.cell? ⟨ad, 6, none⟩ = some (.slice bk av.length bl) := (blk_cell ab.out 6).trans rfl; have hfz57_0 := blk_frozen ab.out 0; have hfz57_1 := blk_frozen ab.out 1; have hfz57_2 := blk_frozen ab.out 2; have hfz57_3 := blk_frozen ab.out 3; have hfz57_4 := blk_frozen ab.out 4; have hfz57_5 := blk_frozen ab.out 5; have hfz57_6 := blk_frozen ab.out 6) | (go_at_call 16; (with_reducible refine (whirligigref09_May.calls bs bc bd be _ _ ar _ _ au bf _ _ av true _ ?side1 ?side2 ?side3 ?side4 ?side5 ?side6 A49.out).mono ?_); (case side1 | side3 | side5 => repeat (first | exact (Kd.C_below bm.out HB.out) | exact (Kd.C_below bo.out HB.out) | exact (Kd.C_below bq.out HB.out) | (with_reducible refine Kd.C_alloc ?_ _) | (with_reducible refine Kd.C_drewN ?_ _) | (with_reducible refine Kd.C_drew ?_))); (case side2 | side4 | side6 => first | exact bn.out | exact bp.out | exact br.out); rintro e w58 ⟨rfl, hb⟩; replace aa := Aside0.mk (k3ec6.q aa.out rfl hb); replace ab := Aside0.mk (k3ec6.q ab.out rfl hb); replace HB := Aside0.mk (k3ec6.z HB.out rfl rfl rfl rfl hb); (try clear hb); (try clear bt); (try clear hk); (try clear hi); have hcz59_0 : w58.cell? ⟨ac, 0, none⟩ = some (.int .i64 ah) := (blk_cell aa.out 0).trans rfl; have hcz59_1 : w58.cell? ⟨ac, 1, none⟩ = some (.int .i64 ai) := (blk_cell aa.out 1).trans rfl; have hcz59_2 : w58.cell? ⟨ac, 2, none⟩ = some (.int .i64 aj) := (blk_cell aa.out 2).trans rfl; have hcz59_3 : w58.cell? ⟨ac, 3, none⟩ = some (.slice al ae.length am) := (blk_cell aa.out 3).trans rfl; have hcz59_4 : w58.cell? ⟨ac, 4, none⟩ = some (.slice an af.length ao) := (blk_cell aa.out 4).trans rfl; have hcz59_5 : w58.cell? ⟨ac, 5, none⟩ = some (.int .i64 ak) := (blk_cell aa.out 5).trans rfl; have hcz59_6 : w58.cell? ⟨ac, 6, none⟩ = some (.slice ap ag.length aq) := (blk_cell aa.out 6).trans rfl; have hfz59_0 := blk_frozen aa.out 0; have hfz59_1 := blk_frozen aa.out 1; have hfz59_2 := blk_frozen aa.out 2; have hfz59_3 := blk_frozen aa.out 3; have hfz59_4 := blk_frozen aa.out 4; have hfz59_5 := blk_frozen aa.out 5; have hfz59_6 := blk_frozen aa.out 6; have hcz60_0 : w58.cell? ⟨ad, 0, none⟩ = some (.int .i64 bc) := (blk_cell ab.out 0).trans rfl; have hcz60_1 : w58.cell? ⟨ad, 1, none⟩ = some (.int .i64 bd) := (blk_cell ab.out 1).trans rfl; have hcz60_2 : w58.cell? ⟨ad, 2, none⟩ = some (.int .i64 be) := (blk_cell ab.out 2).trans rfl; have hcz60_3 : w58.cell? ⟨ad, 3, none⟩ = some (.slice bg ar.length bh) := (blk_cell ab.out 3).trans rfl; have hcz60_4 : w58.cell? ⟨ad, 4, none⟩ = some (.slice bi au.length bj) := (blk_cell ab.out 4).trans rfl; have hcz60_5 : w58.cell? ⟨ad, 5, none⟩ = some (.int .i64 bf) := (blk_cell ab.out 5).trans rfl; have hcz60_6 : w58.cell? ⟨ad, 6, none⟩ = some (.slice bk av.length bl) := (blk_cell ab.out 6).trans rfl; have hfz60_0 := blk_frozen ab.out 0; have hfz60_1 := blk_frozen ab.out 1; have hfz60_2 := blk_frozen ab.out 2; have hfz60_3 := blk_frozen ab.out 3; have hfz60_4 := blk_frozen ab.out 4; have hfz60_5 := blk_frozen ab.out 5; have hfz60_6 := blk_frozen ab.out 6) | (go_at_call 19; (with_reducible refine (whirligigref09_Same.calls bs ah ai aj _ _ ae _ _ af ak _ _ ag bc bd be _ _ ar _ _ au bf _ _ av t332 _ ?side1 ?side2 ?side3 ?side4 ?side5 ?side6 ?side7 ?side8 ?side9 ?side10 ?side11 ?side12 A51.out).mono ?_); (case side1 | side3 | side5 | side7 | side9 | side11 => repeat (first | exact (Kd.C_below aw.out HB.out) | exact (Kd.C_below ay.out HB.out) | exact (Kd.C_below ba.out HB.out) | exact (Kd.C_below bm.out HB.out) | exact (Kd.C_below bo.out HB.out) | exact (Kd.C_below bq.out HB.out) | (with_reducible refine Kd.C_alloc ?_ _) | (with_reducible refine Kd.C_drewN ?_ _) | (with_reducible refine Kd.C_drew ?_))); (case side2 | side4 | side6 | side8 | side10 | side12 => first | exact ax.out | exact az.out | exact bb.out | exact bn.out | exact bp.out | exact br.out); rintro e w61 ⟨rfl, hb⟩; replace aa := Aside0.mk (k3ec6.q aa.out rfl hb); replace ab := Aside0.mk (k3ec6.q ab.out rfl hb); replace HB := Aside0.mk (k3ec6.z HB.out rfl rfl rfl rfl hb); (try clear hb); (try clear bt); (try clear hk); (try clear hi)) | (go_at_call 10; (with_reducible refine (whirligiglaw09_lives.calls bs  t333 _ A53.out).mono ?_); rintro e w62 ⟨rfl, hb⟩; replace aa := Aside0.mk (k3ec6.q aa.out rfl hb); replace ab := Aside0.mk (k3ec6.q ab.out rfl hb); replace HB := Aside0.mk (k3ec6.z HB.out rfl rfl rfl rfl hb); (try clear hb); (try clear bt); (try clear hk); (try clear hi)))
          go_ret
          exact ⟨by first | rfl | (simp [errW_none, errW_some] <;> rfl) | (simp [*, errW_none, errW_some] <;> rfl), by repeat (first | (with_reducible first | exact HB.out | apply below_alloc | apply pw_below_drewN | apply below_drew1) | exact HB.out)⟩
         ·rw [if_neg bw] at H
          have c52b0 : ((t323.toList == t324.toList) == t332) = false := by simpa using bw
          (try (have c52b1 : decide ((t323.toList == t324.toList) = t332) = false := by simpa using bw))
          (try (have c52b2 : ((t323.toList == t324.toList) == t332) = false := by simpa using bw))
          (try (have c52b3 : ¬ ((t323.toList == t324.toList) = t332) := by simpa using bw))
          clear bw
          obtain rfl := Option.some.inj H
          have hnb63 := NB318_319.out
          have hnc63 := NB319_318.out
          have hcz64_0 : wc.cell? ⟨ac, 0, none⟩ = some (.int .i64 ah) := (blk_cell aa.out 0).trans rfl
          have hcz64_1 : wc.cell? ⟨ac, 1, none⟩ = some (.int .i64 ai) := (blk_cell aa.out 1).trans rfl
          have hcz64_2 : wc.cell? ⟨ac, 2, none⟩ = some (.int .i64 aj) := (blk_cell aa.out 2).trans rfl
          have hcz64_3 : wc.cell? ⟨ac, 3, none⟩ = some (.slice al ae.length am) := (blk_cell aa.out 3).trans rfl
          have hcz64_4 : wc.cell? ⟨ac, 4, none⟩ = some (.slice an af.length ao) := (blk_cell aa.out 4).trans rfl
          have hcz64_5 : wc.cell? ⟨ac, 5, none⟩ = some (.int .i64 ak) := (blk_cell aa.out 5).trans rfl
          have hcz64_6 : wc.cell? ⟨ac, 6, none⟩ = some (.slice ap ag.length aq) := (blk_cell aa.out 6).trans rfl
          have hfz64_0 := blk_frozen aa.out 0
          have hfz64_1 := blk_frozen aa.out 1
          have hfz64_2 := blk_frozen aa.out 2
          have hfz64_3 := blk_frozen aa.out 3
          have hfz64_4 := blk_frozen aa.out 4
          have hfz64_5 := blk_frozen aa.out 5
          have hfz64_6 := blk_frozen aa.out 6
          go_wp2_with (first | ((with_reducible refine gate_callee (f := 16) rfl ?_); refine goesL_ (some 42) rfl rfl Try.func16 (by kernel_rfl) rfl #[.agg #[.int .i64 ah, .int .i64 ai, .int .i64 aj, .slice al ae.length am, .slice an af.length ao, .int .i64 ak, .slice ap ag.length aq]] rfl (by (try simp only [List.map_toArray, List.map_cons, List.map_nil]); first | done | rfl) ?_; (with_reducible refine (whirligigref09_May.calls bs ah ai aj _ _ ae _ _ af ak _ _ ag true _ ?side1 ?side2 ?side3 ?side4 ?side5 ?side6 A47.out).mono ?_); (case side1 | side3 | side5 => repeat (first | exact (Kd.C_below aw.out HB.out) | exact (Kd.C_below ay.out HB.out) | exact (Kd.C_below ba.out HB.out) | (with_reducible refine Kd.C_alloc ?_ _) | (with_reducible refine Kd.C_drewN ?_ _) | (with_reducible refine Kd.C_drew ?_))); (case side2 | side4 | side6 => first | exact ax.out | exact az.out | exact bb.out); rintro e w65 ⟨rfl, hb⟩; refine ⟨_, rfl, ?_⟩; replace aa := Aside0.mk (k3ec6.q aa.out rfl hb); replace ab := Aside0.mk (k3ec6.q ab.out rfl hb); replace HB := Aside0.mk (k3ec6.z HB.out rfl rfl rfl rfl hb); (try clear hb); (try clear bt); (try clear hk); (try clear hi); have hcz66_0 : w65.cell? ⟨ad, 0, none⟩ = some (.int .i64 bc) := (blk_cell ab.out 0).trans rfl; have hcz66_1 : w65.cell? ⟨ad, 1, none⟩ = some (.int .i64 bd) := (blk_cell ab.out 1).trans rfl; have hcz66_2 : w65.cell? ⟨ad, 2, none⟩ = some (.int .i64 be) := (blk_cell ab.out 2).trans rfl; have hcz66_3 : w65.cell? ⟨ad, 3, none⟩ = some (.slice bg ar.length bh) := (blk_cell ab.out 3).trans rfl; have hcz66_4 : w65.cell? ⟨ad, 4, none⟩ = some (.slice bi au.length bj) := (blk_cell ab.out 4).trans rfl; have hcz66_5 : w65.cell? ⟨ad, 5, none⟩ = some (.int .i64 bf) := (blk_cell ab.out 5).trans rfl; have hcz66_6 : w65.cell? ⟨ad, 6, none⟩ = some (.slice bk av.length bl) := (blk_cell ab.out 6).trans rfl; have hfz66_0 := blk_frozen ab.out 0; have hfz66_1 := blk_frozen ab.out 1; have hfz66_2 := blk_frozen ab.out 2; have hfz66_3 := blk_frozen ab.out 3; have hfz66_4 := blk_frozen ab.out 4; have hfz66_5 := blk_frozen ab.out 5; have hfz66_6 := blk_frozen ab.out 6) | (go_at_call 16; (with_reducible refine (whirligigref09_May.calls bs bc bd be _ _ ar _ _ au bf _ _ av true _ ?side1 ?side2 ?side3 ?side4 ?side5 ?side6 A49.out).mono ?_); (case side1 | side3 | side5 => repeat (first | exact (Kd.C_below bm.out HB.out) | exact (Kd.C_below bo.out HB.out) | exact (Kd.C_below bq.out HB.out) | (with_reducible refine Kd.C_alloc ?_ _) | (with_reducible refine Kd.C_drewN ?_ _) | (with_reducible refine Kd.C_drew ?_))); (case side2 | side4 | side6 => first | exact bn.out | exact bp.out | exact br.out); rintro e w67 ⟨rfl, hb⟩; replace aa := Aside0.mk (k3ec6.q aa.out rfl hb); replace ab := Aside0.mk (k3ec6.q ab.out rfl hb); replace HB := Aside0.mk (k3ec6.z HB.out rfl rfl rfl rfl hb); (try clear hb); (try clear bt); (try clear hk); (try clear hi); have hcz68_0 : w67.cell? ⟨ac, 0, none⟩ = some (.int .i64 ah) := (blk_cell aa.out 0).trans rfl; have hcz68_1 : w67.cell? ⟨ac, 1, none⟩ = some (.int .i64 ai) := (blk_cell aa.out 1).trans rfl; have hcz68_2 : w67.cell? ⟨ac, 2, none⟩ = some (.int .i64 aj) := (blk_cell aa.out 2).trans rfl; have hcz68_3 : w67.cell? ⟨ac, 3, none⟩ = some (.slice al ae.length am) := (blk_cell aa.out 3).trans rfl; have hcz68_4 : w67.cell? ⟨ac, 4, none⟩ = some (.slice an af.length ao) := (blk_cell aa.out 4).trans rfl; have hcz68_5 : w67.cell? ⟨ac, 5, none⟩ = some (.int .i64 ak) := (blk_cell aa.out 5).trans rfl; have hcz68_6 : w67.cell? ⟨ac, 6, none⟩ = some (.slice ap ag.length aq) := (blk_cell aa.out 6).trans rfl; have hfz68_0 := blk_frozen aa.out 0; have hfz68_1 := blk_frozen aa.out 1; have hfz68_2 := blk_frozen aa.out 2; have hfz68_3 := blk_frozen aa.out 3; have hfz68_4 := blk_frozen aa.out 4; have hfz68_5 := blk_frozen aa.out 5; have hfz68_6 := blk_frozen aa.out 6; have hcz69_0 : w67.cell? ⟨ad, 0, none⟩ = some (.int .i64 bc) := (blk_cell ab.out 0).trans rfl; have hcz69_1 : w67.cell? ⟨ad, 1, none⟩ = some (.int .i64 bd) := (blk_cell ab.out 1).trans rfl; have hcz69_2 : w67.cell? ⟨ad, 2, none⟩ = some (.int .i64 be) := (blk_cell ab.out 2).trans rfl; have hcz69_3 : w67.cell? ⟨ad, 3, none⟩ = some (.slice bg ar.length bh) := (blk_cell ab.out 3).trans rfl; have hcz69_4 : w67.cell? ⟨ad, 4, none⟩ = some (.slice bi au.length bj) := (blk_cell ab.out 4).trans rfl; have hcz69_5 : w67.cell? ⟨ad, 5, none⟩ = some (.int .i64 bf) := (blk_cell ab.out 5).trans rfl; have hcz69_6 : w67.cell? ⟨ad, 6, none⟩ = some (.slice bk av.length bl) := (blk_cell ab.out 6).trans rfl; have hfz69_0 := blk_frozen ab.out 0; have hfz69_1 := blk_frozen ab.out 1; have hfz69_2 := blk_frozen ab.out 2; have hfz69_3 := blk_frozen ab.out 3; have hfz69_4 := blk_frozen ab.out 4; have hfz69_5 := blk_frozen ab.out 5; have hfz69_6 := blk_frozen ab.out 6) | (go_at_call 19; (with_reducible refine (whirligigref09_Same.calls bs ah ai aj _ _ ae _ _ af ak _ _ ag bc bd be _ _ ar _ _ au bf _ _ av t332 _ ?side1 ?side2 ?side3 ?side4 ?side5 ?side6 ?side7 ?side8 ?side9 ?side10 ?side11 ?side12 A51.out).mono ?_); (case side1 | side3 | side5 | side7 | side9 | side11 => repeat (first | exact (Kd.C_below aw.out HB.out) | exact (Kd.C_below ay.out HB.out) | exact (Kd.C_below ba.out HB.out) | exact (Kd.C_below bm.out HB.out) | exact (Kd.C_below bo.out HB.out) | exact (Kd.C_below bq.out HB.out) | (with_reducible refine Kd.C_alloc ?_ _) | (with_reducible refine Kd.C_drewN ?_ _) | (with_reducible refine Kd.C_drew ?_))); (case side2 | side4 | side6 | side8 | side10 | side12 => first | exact ax.out | exact az.out | exact bb.out | exact bn.out | exact bp.out | exact br.out); rintro e w70 ⟨rfl, hb⟩; replace aa := Aside0.mk (k3ec6.q aa.out rfl hb); replace ab := Aside0.mk (k3ec6.q ab.out rfl hb); replace HB := Aside0.mk (k3ec6.z HB.out rfl rfl rfl rfl hb); (try clear hb); (try clear bt); (try clear hk); (try clear hi)))
          go_ret
          exact ⟨by first | rfl | (simp [errW_none, errW_some] <;> rfl) | (simp [*, errW_none, errW_some] <;> rfl), by repeat (first | (with_reducible first | exact HB.out | apply below_alloc | apply pw_below_drewN | apply below_drew1) | exact HB.out)⟩
        ·replace c50 := Bool.eq_false_iff.mpr c50
         subst c50
         have H1 : ((whirligiglaw09_lives.f bs).bind fun t334 => (some t334)) = some r := by rw [if_neg (show ¬ (false = true) by decide)] at H; exact H
         clear H
         have H := H1
         clear H1
         replace H := Option.bind_eq_some_iff.mp H
         obtain ⟨t334, A710, H⟩ := H
         replace H : (some t334) = some r := H
         have A71 := Aside0.mk A710
         clear A710
         obtain rfl := Option.some.inj H
         have hnb72 := NB318_319.out
         have hnc72 := NB319_318.out
         have hcz73_0 : wc.cell? ⟨ac, 0, none⟩ = some (.int .i64 ah) := (blk_cell aa.out 0).trans rfl
         have hcz73_1 : wc.cell? ⟨ac, 1, none⟩ = some (.int .i64 ai) := (blk_cell aa.out 1).trans rfl
         have hcz73_2 : wc.cell? ⟨ac, 2, none⟩ = some (.int .i64 aj) := (blk_cell aa.out 2).trans rfl
         have hcz73_3 : wc.cell? ⟨ac, 3, none⟩ = some (.slice al ae.length am) := (blk_cell aa.out 3).trans rfl
         have hcz73_4 : wc.cell? ⟨ac, 4, none⟩ = some (.slice an af.length ao) := (blk_cell aa.out 4).trans rfl
         have hcz73_5 : wc.cell? ⟨ac, 5, none⟩ = some (.int .i64 ak) := (blk_cell aa.out 5).trans rfl
         have hcz73_6 : wc.cell? ⟨ac, 6, none⟩ = some (.slice ap ag.length aq) := (blk_cell aa.out 6).trans rfl
         have hfz73_0 := blk_frozen aa.out 0
         have hfz73_1 := blk_frozen aa.out 1
         have hfz73_2 := blk_frozen aa.out 2
         have hfz73_3 := blk_frozen aa.out 3
         have hfz73_4 := blk_frozen aa.out 4
         have hfz73_5 := blk_frozen aa.out 5
         have hfz73_6 := blk_frozen aa.out 6
         go_wp2_with (first | ((with_reducible refine gate_callee (f := 16) rfl ?_); refine goesL_ (some 42) rfl rfl Try.func16 (by kernel_rfl) rfl #[.agg #[.int .i64 ah, .int .i64 ai, .int .i64 aj, .slice al ae.length am, .slice an af.length ao, .int .i64 ak, .slice ap ag.length aq]] rfl (by (try simp only [List.map_toArray, List.map_cons, List.map_nil]); first | done | rfl) ?_; (with_reducible refine (whirligigref09_May.calls bs ah ai aj _ _ ae _ _ af ak _ _ ag true _ ?side1 ?side2 ?side3 ?side4 ?side5 ?side6 A47.out).mono ?_); (case side1 | side3 | side5 => repeat (first | exact (Kd.C_below aw.out HB.out) | exact (Kd.C_below ay.out HB.out) | exact (Kd.C_below ba.out HB.out) | (with_reducible refine Kd.C_alloc ?_ _) | (with_reducible refine Kd.C_drewN ?_ _) | (with_reducible refine Kd.C_drew ?_))); (case side2 | side4 | side6 => first | exact ax.out | exact az.out | exact bb.out); rintro e w74 ⟨rfl, hb⟩; refine ⟨_, rfl, ?_⟩; replace aa := Aside0.mk (k3ec6.q aa.out rfl hb); replace ab := Aside0.mk (k3ec6.q ab.out rfl hb); replace HB := Aside0.mk (k3ec6.z HB.out rfl rfl rfl rfl hb); (try clear hb); (try clear bt); (try clear hk); (try clear hi); have hcz75_0 : w74.cell? ⟨ad, 0, none⟩ = some (.int .i64 bc) := (blk_cell ab.out 0).trans rfl; have hcz75_1 : w74.cell? ⟨ad, 1, none⟩ = some (.int .i64 bd) := (blk_cell ab.out 1).trans rfl; have hcz75_2 : w74.cell? ⟨ad, 2, none⟩ = some (.int .i64 be) := (blk_cell ab.out 2).trans rfl; have hcz75_3 : w74.cell? ⟨ad, 3, none⟩ = some (.slice bg ar.length bh) := (blk_cell ab.out 3).trans rfl; have hcz75_4 : w74.cell? ⟨ad, 4, none⟩ = some (.slice bi au.length bj) := (blk_cell ab.out 4).trans rfl; have hcz75_5 : w74.cell? ⟨ad, 5, none⟩ = some (.int .i64 bf) := (blk_cell ab.out 5).trans rfl; have hcz75_6 : w74.cell? ⟨ad, 6, none⟩ = some (.slice bk av.length bl) := (blk_cell ab.out 6).trans rfl; have hfz75_0 := blk_frozen ab.out 0; have hfz75_1 := blk_frozen ab.out 1; have hfz75_2 := blk_frozen ab.out 2; have hfz75_3 := blk_frozen ab.out 3; have hfz75_4 := blk_frozen ab.out 4; have hfz75_5 := blk_frozen ab.out 5; have hfz75_6 := blk_frozen ab.out 6) | (go_at_call 16; (with_reducible refine (whirligigref09_May.calls bs bc bd be _ _ ar _ _ au bf _ _ av false _ ?side1 ?side2 ?side3 ?side4 ?side5 ?side6 A49.out).mono ?_); (case side1 | side3 | side5 => repeat (first | exact (Kd.C_below bm.out HB.out) | exact (Kd.C_below bo.out HB.out) | exact (Kd.C_below bq.out HB.out) | (with_reducible refine Kd.C_alloc ?_ _) | (with_reducible refine Kd.C_drewN ?_ _) | (with_reducible refine Kd.C_drew ?_))); (case side2 | side4 | side6 => first | exact bn.out | exact bp.out | exact br.out); rintro e w76 ⟨rfl, hb⟩; replace aa := Aside0.mk (k3ec6.q aa.out rfl hb); replace ab := Aside0.mk (k3ec6.q ab.out rfl hb); replace HB := Aside0.mk (k3ec6.z HB.out rfl rfl rfl rfl hb); (try clear hb); (try clear bt); (try clear hk); (try clear hi)) | (go_at_call 10; (with_reducible refine (whirligiglaw09_lives.calls bs  t334 _ A71.out).mono ?_); rintro e w77 ⟨rfl, hb⟩; replace aa := Aside0.mk (k3ec6.q aa.out rfl hb); replace ab := Aside0.mk (k3ec6.q ab.out rfl hb); replace HB := Aside0.mk (k3ec6.z HB.out rfl rfl rfl rfl hb); (try clear hb); (try clear bt); (try clear hk); (try clear hi)))
         go_ret
         exact ⟨by first | rfl | (simp [errW_none, errW_some] <;> rfl) | (simp [*, errW_none, errW_some] <;> rfl), by repeat (first | (with_reducible first | exact HB.out | apply below_alloc | apply pw_below_drewN | apply below_drew1) | exact HB.out)⟩
       ·replace c48 := Bool.eq_false_iff.mpr c48
        subst c48
        have H1 : ((whirligiglaw09_lives.f bs).bind fun t335 => (some t335)) = some r := by rw [if_neg (show ¬ (false = true) by decide)] at H; exact H
        clear H
        have H := H1
        clear H1
        replace H := Option.bind_eq_some_iff.mp H
        obtain ⟨t335, A780, H⟩ := H
        replace H : (some t335) = some r := H
        have A78 := Aside0.mk A780
        clear A780
        obtain rfl := Option.some.inj H
        have hnb79 := NB318_319.out
        have hnc79 := NB319_318.out
        have hcz80_0 : wc.cell? ⟨ac, 0, none⟩ = some (.int .i64 ah) := (blk_cell aa.out 0).trans rfl
        have hcz80_1 : wc.cell? ⟨ac, 1, none⟩ = some (.int .i64 ai) := (blk_cell aa.out 1).trans rfl
        have hcz80_2 : wc.cell? ⟨ac, 2, none⟩ = some (.int .i64 aj) := (blk_cell aa.out 2).trans rfl
        have hcz80_3 : wc.cell? ⟨ac, 3, none⟩ = some (.slice al ae.length am) := (blk_cell aa.out 3).trans rfl
        have hcz80_4 : wc.cell? ⟨ac, 4, none⟩ = some (.slice an af.length ao) := (blk_cell aa.out 4).trans rfl
        have hcz80_5 : wc.cell? ⟨ac, 5, none⟩ = some (.int .i64 ak) := (blk_cell aa.out 5).trans rfl
        have hcz80_6 : wc.cell? ⟨ac, 6, none⟩ = some (.slice ap ag.length aq) := (blk_cell aa.out 6).trans rfl
        have hfz80_0 := blk_frozen aa.out 0
        have hfz80_1 := blk_frozen aa.out 1
        have hfz80_2 := blk_frozen aa.out 2
        have hfz80_3 := blk_frozen aa.out 3
        have hfz80_4 := blk_frozen aa.out 4
        have hfz80_5 := blk_frozen aa.out 5
        have hfz80_6 := blk_frozen aa.out 6
        go_wp2_with (first | ((with_reducible refine gate_callee (f := 16) rfl ?_); refine goesL_ (some 42) rfl rfl Try.func16 (by kernel_rfl) rfl #[.agg #[.int .i64 ah, .int .i64 ai, .int .i64 aj, .slice al ae.length am, .slice an af.length ao, .int .i64 ak, .slice ap ag.length aq]] rfl (by (try simp only [List.map_toArray, List.map_cons, List.map_nil]); first | done | rfl) ?_; (with_reducible refine (whirligigref09_May.calls bs ah ai aj _ _ ae _ _ af ak _ _ ag false _ ?side1 ?side2 ?side3 ?side4 ?side5 ?side6 A47.out).mono ?_); (case side1 | side3 | side5 => repeat (first | exact (Kd.C_below aw.out HB.out) | exact (Kd.C_below ay.out HB.out) | exact (Kd.C_below ba.out HB.out) | (with_reducible refine Kd.C_alloc ?_ _) | (with_reducible refine Kd.C_drewN ?_ _) | (with_reducible refine Kd.C_drew ?_))); (case side2 | side4 | side6 => first | exact ax.out | exact az.out | exact bb.out); rintro e w81 ⟨rfl, hb⟩; refine ⟨_, rfl, ?_⟩; replace aa := Aside0.mk (k3ec6.q aa.out rfl hb); replace ab := Aside0.mk (k3ec6.q ab.out rfl hb); replace HB := Aside0.mk (k3ec6.z HB.out rfl rfl rfl rfl hb); (try clear hb); (try clear bt); (try clear hk); (try clear hi)) | (go_at_call 10; (with_reducible refine (whirligiglaw09_lives.calls bs  t335 _ A78.out).mono ?_); rintro e w82 ⟨rfl, hb⟩; replace aa := Aside0.mk (k3ec6.q aa.out rfl hb); replace ab := Aside0.mk (k3ec6.q ab.out rfl hb); replace HB := Aside0.mk (k3ec6.z HB.out rfl rfl rfl rfl hb); (try clear hb); (try clear bt); (try clear hk); (try clear hi)))
        go_ret
        exact ⟨by first | rfl | (simp [errW_none, errW_some] <;> rfl) | (simp [*, errW_none, errW_some] <;> rfl), by repeat (first | (with_reducible first | exact HB.out | apply below_alloc | apply pw_below_drewN | apply below_drew1) | exact HB.out)⟩

end Go.Proofs.Ytnnlbofmlfafhaa.P

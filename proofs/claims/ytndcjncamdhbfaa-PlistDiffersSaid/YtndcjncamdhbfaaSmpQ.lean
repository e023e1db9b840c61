/- plist.samples' comparison: addr.before, addr.Before and the function given to the sort, at prefixes that may be. -/
import Derived.Test.YtndcjncamdhbfaaSmpO
import Derived.Test.YtndcjncamdhbfaaPx0
namespace Go.Proofs.Ytndcjncamdhbfaa.P
open Go.RowKit Go.Proofs.YtndcjncamdhbfaaW.PrintWords Go.Proofs.YtndcjncamdhbfaaW.PrintLast Go.Proofs.YtndcjncamdhbfaaW.PrintMore
set_option linter.unusedVariables false
set_option linter.unusedSimpArgs false

def befS (a n b m : Int) : Bool := decide (a < b) || (decide (a = b) && decide (n < m))
def ordS (x y : S24) : Int := if befS x.f0 x.f1 y.f0 y.f1 then -1 else if (x.f0 == y.f0 && x.f1 == y.f1) then 0 else 1
set_option maxHeartbeats 4000000 in
set_option maxRecDepth 100000 in
theorem before_gr (a n b m : Int) (w : World) :
    Calls Try.prog 62 #[.agg #[.int .u32 a, .int .i64 n], .agg #[.int .u32 b, .int .i64 m]] w fun e w' => e = .returned (.bool (befS a n b m)) ∧ GrS w w' := by
  go_enter Try.func62, Try.ntmps62
  go_wp2_with fail
  all_goals
    go_ret
    exact ⟨by unfold befS; simp [*], by repeat (first | exact GrS.refl _ | apply GrS.drewN | apply GrS.drew | apply GrS.alloc)⟩
set_option maxHeartbeats 4000000 in
set_option maxRecDepth 100000 in
theorem Before_gr (a n b m : Int) (w : World) (ha : isA a) (hm : mayB a n = true) (hb : isA b) (hm2 : mayB b m = true) :
    Calls Try.prog 54 #[.agg #[.int .u32 a, .int .i64 n], .agg #[.int .u32 b, .int .i64 m]] w fun e w' => e = .returned (.bool (befS a n b m)) ∧ GrS w w' := by
  have HM1 := mkHid (fun W => may_gr a n W ha hm)
  have HM2 := mkHid (fun W => may_gr b m W hb hm2)
  clear ha hm hb hm2
  go_enter Try.func54, Try.ntmps54
  go_wp2_with fail
  obtain ⟨W, hW⟩ : ∃ W, W = (w.alloc (Obj.cells #[.int .u32 a, .int .i64 n] 24)).alloc (Obj.cells #[.int .u32 b, .int .i64 m] 24) := ⟨_, rfl⟩
  rw [← hW]
  have c0 : W.cell? ⟨w.heap.size, 0, none⟩ = some (.int .u32 a) := by rw [hW]; go_simp
  have c1 : W.cell? ⟨w.heap.size, 1, none⟩ = some (.int .i64 n) := by rw [hW]; go_simp
  have c2 : W.cell? ⟨w.heap.size + 1, 0, none⟩ = some (.int .u32 b) := by rw [hW]; go_simp
  have c3 : W.cell? ⟨w.heap.size + 1, 1, none⟩ = some (.int .i64 m) := by rw [hW]; go_simp
  have HG : Hid (GrS w W) := by
    unfold Hid; rw [hW]
    exact ((GrS.refl _).alloc _).alloc _
  clear hW
  go_at_call 32
  refine (HM1.out _).mono ?_
  rintro e w1 ⟨rfl, hg1⟩
  have HG1 : Hid (GrS w w1) := HG.out.trans hg1
  have d0 := pw_cell_below hg1.below c0
  have d1 := pw_cell_below hg1.below c1
  have d2 := pw_cell_below hg1.below c2
  have d3 := pw_cell_below hg1.below c3
  clear hg1 c0 c1 c2 c3
  go_wp2_with fail
  go_at_call 32
  refine (HM2.out _).mono ?_
  rintro e w2 ⟨rfl, hg2⟩
  have HG2 : Hid (GrS w w2) := HG1.out.trans hg2
  have e0 := pw_cell_below hg2.below d0
  have e1 := pw_cell_below hg2.below d1
  have e2 := pw_cell_below hg2.below d2
  have e3 := pw_cell_below hg2.below d3
  clear hg2 d0 d1 d2 d3
  go_wp2_with fail
  go_at_call 62
  refine (before_gr a n b m _).mono ?_
  rintro e w3 ⟨rfl, hg3⟩
  have HG3 : Hid (GrS w w3) := HG2.out.trans hg3
  go_wp2_with fail
  go_ret
  exact ⟨rfl, HG3.out⟩
set_option maxHeartbeats 4000000 in
set_option maxRecDepth 100000 in
theorem orderS_grow (x y : S24) (w : World) (ha : isA x.f0) (hm : mayB x.f0 x.f1 = true) (hb : isA y.f0) (hm2 : mayB y.f0 y.f1 = true) :
    Calls Try.prog 53 #[.agg #[.int .u32 x.f0, .int .i64 x.f1], .agg #[.int .u32 y.f0, .int .i64 y.f1]] w fun e w' => e = .returned (.int .i64 (ordS x y)) ∧ GrS w w' := by
  unfold ordS
  obtain ⟨a, n⟩ := x
  obtain ⟨b, m⟩ := y
  have HM := mkHid (fun W => Before_gr a n b m W ha hm hb hm2)
  obtain ⟨V, hV⟩ : ∃ V : Int, V = (if befS a n b m = true then -1 else if (a == b && n == m) = true then 0 else 1) := ⟨_, rfl⟩
  rw [show (if befS (S24.mk a n).f0 (S24.mk a n).f1 (S24.mk b m).f0 (S24.mk b m).f1 = true then -1 else if ((S24.mk a n).f0 == (S24.mk b m).f0 && (S24.mk a n).f1 == (S24.mk b m).f1) = true then 0 else 1) = V from hV.symm]
  have HV := mkHid hV
  clear hV
  clear ha hm hb hm2
  go_enter Try.func53, Try.ntmps53
  go_wp2_with fail
  obtain ⟨W, hW⟩ : ∃ W, W = (w.alloc (Obj.cells #[.int .u32 a, .int .i64 n] 24)).alloc (Obj.cells #[.int .u32 b, .int .i64 m] 24) := ⟨_, rfl⟩
  rw [← hW]
  have c0 : W.cell? ⟨w.heap.size, 0, none⟩ = some (.int .u32 a) := by rw [hW]; go_simp
  have c1 : W.cell? ⟨w.heap.size, 1, none⟩ = some (.int .i64 n) := by rw [hW]; go_simp
  have c2 : W.cell? ⟨w.heap.size + 1, 0, none⟩ = some (.int .u32 b) := by rw [hW]; go_simp
  have c3 : W.cell? ⟨w.heap.size + 1, 1, none⟩ = some (.int .i64 m) := by rw [hW]; go_simp
  have HG : Hid (GrS w W) := by
    unfold Hid; rw [hW]
    exact ((GrS.refl _).alloc _).alloc _
  clear hW
  go_at_call 54
  refine (HM.out _).mono ?_
  rintro e w1 ⟨rfl, hg1⟩
  have HG1 : Hid (GrS w w1) := HG.out.trans hg1
  have d0 := pw_cell_below hg1.below c0
  have d1 := pw_cell_below hg1.below c1
  have d2 := pw_cell_below hg1.below c2
  have d3 := pw_cell_below hg1.below c3
  clear hg1 c0 c1 c2 c3
  obtain ⟨B, hB⟩ : ∃ B, B = befS a n b m := ⟨_, rfl⟩
  rw [← hB]
  have HB := mkHid hB
  clear hB
  go_wp2_with fail
  all_goals
    go_ret
    exact ⟨by (have hV := HV.out); (rw [← HB.out] at hV); simp_all, HG1.out⟩
end Go.Proofs.Ytndcjncamdhbfaa.P

/- Tries: nil ones. -/
import Derived.Test.YtnihacajjpcjeaaTrV
import Derived.Test.YtnihacajjpcjeaaTrS

namespace Go.Proofs.Ytnihacajjpcjeaa
open Go.RowKit Go.Proofs.Ytnihacajjpcjeaa.P Go.Proofs.YtnihacajjpcjeaaW.PrintWords Go.Proofs.YtnihacajjpcjeaaW.PrintLast Go.Proofs.YtnihacajjpcjeaaW.PrintMore
set_option linter.unusedVariables false
set_option linter.unusedSimpArgs false

theorem keep3 {P : Program} {f : FuncId} {args : Array Value} {X : World} {Q : Ending → Prop} (h : Calls P f args X fun e w' => Q e ∧ Below X.heap.size X w') (p1 p2 p3 : Addr) (v1 v2 v3 : Value) (h1 : X.cell? p1 = some v1) (h2 : X.cell? p2 = some v2) (h3 : X.cell? p3 = some v3) :
    Calls P f args X fun e w' => Q e ∧ (w'.cell? p1 = some v1 ∧ w'.cell? p2 = some v2 ∧ w'.cell? p3 = some v3) ∧ Below X.heap.size X w' := by
  refine h.mono ?_
  rintro e w' ⟨hq, hb⟩
  exact ⟨hq, ⟨(hb.cell (World.block_lt_of_cell? _ _ h1)).trans h1, (hb.cell (World.block_lt_of_cell? _ _ h2)).trans h2, (hb.cell (World.block_lt_of_cell? _ _ h3)).trans h3⟩, hb⟩
set_option maxHeartbeats 4000000 in
set_option maxRecDepth 100000 in
theorem len_nil (w : World) : Calls Try.prog 17 #[.pointer none] w fun e w' => e = .returned (.int .i64 0) ∧ w' = w := by
  go_enter Try.func17, Try.ntmps17
  go_wp2_with fail
  go_ret
  exact ⟨rfl, rfl⟩
set_option maxHeartbeats 4000000 in
set_option maxRecDepth 100000 in
theorem get_nil (w : World) (a b : Int) : Calls Try.prog 23 #[.pointer none, .agg #[.int .u32 a, .int .i64 b]] w fun e w' => e = .returned (.tuple #[.int .i64 0, .bool false]) ∧ Below w.heap.size w w' := by
  have HB0 : Hid (Below w.heap.size w (w.alloc (.cells #[.int .u32 a, .int .i64 b] 34))) := Below.alloc (Below.refl _ w) (Nat.le_refl _) _
  go_enter Try.func23, Try.ntmps23
  go_wp2_with fail
  refine (find_nil _ a b).mono ?_
  rintro e w1 ⟨rfl, hb⟩
  have HB := mkHid (below_step HB0.out hb)
  clear hb
  go_wp2_with fail
  go_ret2
  exact ⟨rfl, HB.out⟩
set_option maxHeartbeats 4000000 in
set_option maxRecDepth 100000 in
theorem each_nil (w : World) (f : Value) : Calls Try.prog 24 #[.pointer none, f] w fun e w' => e = .returned (.tuple #[]) ∧ Below w.heap.size w w' := by
  go_enter Try.func24, Try.ntmps24
  go_wp2_with fail
  exact bodyPost_end (results_none rfl _ _ _) rfl ⟨rfl, Below.refl _ _⟩
set_option maxHeartbeats 4000000 in
set_option maxRecDepth 100000 in
theorem above_nil (w : World) (a b : Int) : Calls Try.prog 20 #[.pointer none, .agg #[.int .u32 a, .int .i64 b]] w fun e w' => e = .returned (.slice none 0 0) ∧ Below w.heap.size w w' := by
  have HB0 : Hid (Below w.heap.size w (w.alloc (.cells #[.int .u32 a, .int .i64 b] 34))) := Below.alloc (Below.refl _ w) (Nat.le_refl _) _
  go_enter Try.func20, Try.ntmps20
  go_wp2_with fail
  go_ret
  exact ⟨rfl, HB0.out⟩
set_option maxHeartbeats 4000000 in
set_option maxRecDepth 100000 in
theorem walk_nil (w : World) (a b : Int) (f : Value) : Calls Try.prog 47 #[.pointer none, .agg #[.int .u32 a, .int .i64 b], f] w fun e w' => e = .returned (.bool true) ∧ Below w.heap.size w w' := by
  have HB0 : Hid (Below w.heap.size w (w.alloc (.cells #[.int .u32 a, .int .i64 b] 34))) := Below.alloc (Below.refl _ w) (Nat.le_refl _) _
  go_enter Try.func47, Try.ntmps47
  go_wp2_with fail
  go_ret
  exact ⟨rfl, HB0.out⟩
set_option maxHeartbeats 4000000 in
set_option maxRecDepth 100000 in
theorem below_nil (w : World) (a b : Int) : Calls Try.prog 26 #[.pointer none, .agg #[.int .u32 a, .int .i64 b]] w fun e w' => e = .returned (.slice none 0 0) ∧ Below w.heap.size w w' := by
  go_enter Try.func26, Try.ntmps26
  go_upto_region 2 with fail
  obtain ⟨W, hW⟩ : ∃ W, W = (w.alloc (.cells #[.int .u32 a, .int .i64 b] 34)).alloc (.cells #[.slice none 0 0] 44) := ⟨_, rfl⟩
  obtain ⟨g, hg⟩ : ∃ g, g = w.heap.size + 1 := ⟨_, rfl⟩
  have q0 : W.cell? ⟨w.heap.size, 0, none⟩ = some (.int .u32 a) := by rw [hW]; go_simp
  have q1 : W.cell? ⟨w.heap.size, 1, none⟩ = some (.int .i64 b) := by rw [hW]; go_simp
  have q2 : W.cell? ⟨g, 0, none⟩ = some (.slice none 0 0) := by rw [hW, hg]; go_simp
  have HB : Hid (Below w.heap.size w W) := by rw [hW]; exact ((Below.refl w.heap.size w).alloc (Nat.le_refl _) _).alloc (by simp) _
  rw [← hW, ← hg]
  clear hW hg
  go_region_held3 (fun w' => w'.cell? ⟨w.heap.size, 0, none⟩ = some (.int .u32 a) ∧ w'.cell? ⟨w.heap.size, 1, none⟩ = some (.int .i64 b) ∧ w'.cell? ⟨g, 0, none⟩ = some (.slice none 0 0)) (go_keep)
    (first | (go_at_call 42; refine (keep3 (find_nil _ a b) _ _ _ _ _ _ (by exact q0) (by exact q1) (by exact q2)).mono ?_; rintro e w2 ⟨rfl, ⟨k0, k1, k2⟩, hb2⟩) | (go_at_call 47; refine (keep3 (walk_nil _ a b _) _ _ _ _ _ _ (by exact k0) (by exact k1) (by exact k2)).mono ?_; rintro e w3 ⟨rfl, ⟨k3, k4, k5⟩, hb3⟩))
  all_goals
    have HF : Hid (Below w.heap.size w w3) := below_step (below_step (below_drew HB.out) hb2) hb3
    clear hb2 hb3 k0 k1 k2 k3 k4 q0 q1 q2
    go_wp2_with fail
    go_ret
    exact ⟨rfl, HF.out⟩
end Go.Proofs.Ytnihacajjpcjeaa

/- Printed by this session's own program (wip/tools/pr.py) out of the translation: functions of the program as plain Lean functions, and that the program's calls come to what these say. -/
import Derived.Test.YtikjfonedddlpaaPx0
import Derived.Test.YtikjfonedddlpaaPx4
import Derived.Test.YtikjfonedddlpaaBsC
namespace Go.Proofs.Ytikjfonedddlpaa.P
open Go.RowKit Go.Proofs.YtikjfonedddlpaaW.PrintWords Go.Proofs.YtikjfonedddlpaaW.PrintLast Go.Proofs.YtikjfonedddlpaaW.PrintMore
attribute [local go_sem] max2_int min2_int max_two min_two max_three min_three max_four min_four   -- for this text's walks alone
set_option linter.unusedVariables false
set_option linter.unusedSimpArgs false

/-! ### comm_Has: function 26 -/
-- EXT Derived.Test.YtikjfonedddlpaaBsC
-- ALONE
def comm_Has.f (k : Nat) (l0 : List S23) (a1_0 a1_1 : Int) : Option Bool := if l0.length ≤ 1000000 then (comm_Set.f k l0).bind fun t => some (t && inC l0 ⟨a1_0, a1_1⟩) else none
theorem comm_Has.mono : ∀ a0 a1 a2 k, LeO (comm_Has.f k a0 a1 a2) (comm_Has.f (k + 1) a0 a1 a2) := by
  intro a0 a1 a2 k
  unfold comm_Has.f
  exact LeO.ite (LeO.bind (comm_Set.mono _ _) (fun _ => LeO.refl _)) (LeO.refl _)
set_option maxHeartbeats 2000000 in
set_option maxRecDepth 100000 in
theorem comm_Has.calls (k : Nat) (A0 : Option Addr) (c0 : Nat) (l0 : List S23) (a1_0 a1_1 : Int) (r : Bool) (w : World) (hr0 : Kd.C k23 w A0 l0.length l0) (hc0 : l0.length ≤ c0) (h : comm_Has.f k l0 a1_0 a1_1 = some r) :
    Calls Try.prog 26 #[.slice A0 l0.length c0, .agg #[.int .i64 a1_0, .int .i64 a1_1]] w fun e w' => e = .returned (.bool r) ∧ Below w.heap.size w w' := by
  unfold comm_Has.f at h
  by_cases hlen : l0.length ≤ 1000000
  case neg => rw [if_neg hlen] at h; exact absurd h (by simp)
  rw [if_pos hlen] at h
  obtain ⟨t, ht, h⟩ := Option.bind_eq_some_iff.mp h
  have HLEN := mkHid hlen
  have HR0 := mkHid hr0
  have HC0 := mkHid hc0
  have HT := mkHid ht
  have H := mkHid (Option.some.inj h)
  clear hr0 hc0 ht h hlen
  go_enter Try.func26, Try.ntmps26
  go_wp2_with fail
  obtain ⟨W, hW⟩ : ∃ W, W = w.alloc (Obj.cells #[.int .i64 a1_0, .int .i64 a1_1] 23) := ⟨_, rfl⟩
  rw [← hW]
  have HBW : Hid (Below w.heap.size w W) := by unfold Hid; rw [hW]; exact below_alloc (Below.refl _ _) _
  clear hW
  refine (bs_comm A0 c0 l0 ⟨a1_0, a1_1⟩ W (Kd.C_below HR0.out HBW.out) HLEN.out).mono ?_
  rintro e w1 ⟨pos, b, rfl, hbs, hb⟩
  have HB1 := mkHid (below_step HBW.out hb)
  have HBS := mkHid hbs
  clear hbs hb
  go_wp2_with fail
  refine (comm_Set.calls k A0 c0 l0 t _ (Kd.C_below HR0.out HB1.out) HC0.out HT.out).mono ?_
  rintro e w2 ⟨rfl, hb⟩
  have HB2 := mkHid (below_step HB1.out hb)
  clear hb
  cases t with
  | false =>
    go_wp2_with fail
    go_ret
    exact ⟨by rw [← H.out]; rfl, HB2.out⟩
  | true =>
    go_wp2_with fail
    go_ret
    refine ⟨?_, HB2.out⟩
    rw [← H.out, ← HBS.out (set_sorted k l0 HT.out HLEN.out)]
    simp

end Go.Proofs.Ytikjfonedddlpaa.P

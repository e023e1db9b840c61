/- plist.samples' comparison of prefixes that may be: what it leaves is the world ahead by some draws, with new blocks behind it. -/
import Derived.Test.YtndcjncamdhbfaaSmpP
import Derived.Sort.Grow
import Derived.Test.YtndcjncamdhbfaaPx3
namespace Go.Proofs.Ytndcjncamdhbfaa.P
open Go.RowKit Go.Proofs.YtndcjncamdhbfaaW.PrintWords Go.Proofs.YtndcjncamdhbfaaW.PrintLast Go.Proofs.YtndcjncamdhbfaaW.PrintMore
set_option linter.unusedVariables false
set_option linter.unusedSimpArgs false

/-- draws, and new blocks behind -/
def GrS (w w' : World) : Prop := ∃ (q : Nat) (os : Array Obj), w' = Go.Sort.grow (w.drewN q) os
theorem GrS.refl (w : World) : GrS w w := ⟨0, #[], by simp [Go.Sort.grow, World.drewN]⟩
theorem GrS.drewN {w W : World} (h : GrS w W) (n : Nat) : GrS w (W.drewN n) := by
  obtain ⟨q, os, rfl⟩ := h
  exact ⟨q + n, os, by simp [Go.Sort.grow, World.drewN, Nat.add_assoc]⟩
theorem GrS.drew {w W : World} (h : GrS w W) : GrS w W.drew := GrS.drewN h 1
theorem GrS.alloc {w W : World} (h : GrS w W) (o : Obj) : GrS w (W.alloc o) := by
  obtain ⟨q, os, rfl⟩ := h
  exact ⟨q, os ++ #[o], by rw [Go.Sort.alloc_eq_grow, Go.Sort.grow_grow]⟩
theorem GrS.trans {a b c : World} (h : GrS a b) (k : GrS b c) : GrS a c := by
  obtain ⟨q, os, rfl⟩ := h
  obtain ⟨q2, os2, rfl⟩ := k
  refine ⟨q + q2, os ++ os2, ?_⟩
  rw [← Go.Sort.grow_grow]
  simp [Go.Sort.grow, World.drewN, Nat.add_assoc]
theorem GrS.below {w w' : World} (h : GrS w w') : Below w.heap.size w w' := by
  obtain ⟨q, os, rfl⟩ := h
  refine ⟨rfl, rfl, rfl, ?_, fun k hk => ?_⟩
  · rw [Go.Sort.size_grow]; show w.heap.size ≤ w.heap.size + os.size; omega
  · exact Go.Sort.heap_grow_old _ _ hk
set_option maxHeartbeats 4000000 in
set_option maxRecDepth 100000 in
theorem may_gr (a n : Int) (w : World) (ha : isA a) (hm : mayB a n = true) :
    Calls Try.prog 32 #[.agg #[.int .u32 a, .int .i64 n]] w fun e w' => e = .returned (.bool true) ∧ GrS w w' := by
  obtain ⟨n0, n1, n2⟩ := (mayB_iff a n).1 hm
  have hk := mask_is n n0 n1
  have HK := mkHid (fun W => addr_mask.calls n _ W hk)
  have hand := andNot_mask a (32 - n).toNat ha.1 (by have := ha.2; omega) (by omega)
  have hand2 : Go.bits .andNot .u32 a (4294967296 - un n) = 0 := by
    show Go.bits .andNot .u32 a (4294967296 - 2 ^ (32 - n).toNat) = 0
    rw [hand]; exact n2
  have q1 : decide (0 ≤ n) = true := decide_eq_true n0
  have q2 : decide (n ≤ 32) = true := decide_eq_true n1
  have q3 : decide (n ≥ 0) = true := decide_eq_true n0
  clear hk hand n2 hm
  go_enter Try.func32, Try.ntmps32
  go_wp2_with fail
  obtain ⟨W, hW⟩ : ∃ W, W = w.alloc (Obj.cells #[.int .u32 a, .int .i64 n] 24) := ⟨_, rfl⟩
  rw [← hW]
  have c0 : W.cell? ⟨w.heap.size, 0, none⟩ = some (.int .u32 a) := by rw [hW]; go_simp
  have c1 : W.cell? ⟨w.heap.size, 1, none⟩ = some (.int .i64 n) := by rw [hW]; go_simp
  have HG : Hid (GrS w W) := by unfold Hid; rw [hW]; exact (GrS.refl _).alloc _
  clear hW
  go_region_held3 (fun w' => w'.cell? ⟨w.heap.size, 0, none⟩ = some (.int .u32 a) ∧ w'.cell? ⟨w.heap.size, 1, none⟩ = some (.int .i64 n)) (go_keep)
    (first | (go_at_call 44; refine (HK.out _).mono ?_; rintro e w' ⟨rfl, ⟨⟨nd, rfl⟩⟩⟩))
  all_goals
    go_wp2_with fail
    go_ret
    exact ⟨rfl, by repeat (first | exact HG.out | apply GrS.drewN | apply GrS.drew | apply GrS.alloc)⟩
end Go.Proofs.Ytndcjncamdhbfaa.P

/- Printed by this session's own program (wip/tools/pr.py) out of the translation: functions of the program as plain Lean functions, and that the program's calls come to what these say. -/
import Derived.Test.YtndcjncamdhbfaaPx0
import Derived.Test.YtndcjncamdhbfaaPx6
import Derived.Test.YtndcjncamdhbfaaIdxRange
namespace Go.Proofs.Ytndcjncamdhbfaa.P
open Go.RowKit Go.Proofs.YtndcjncamdhbfaaW.PrintWords Go.Proofs.YtndcjncamdhbfaaW.PrintLast Go.Proofs.YtndcjncamdhbfaaW.PrintMore
attribute [local go_sem] max2_int min2_int max_two min_two max_three min_three max_four min_four   -- for this text's walks alone
set_option linter.unusedVariables false
set_option linter.unusedSimpArgs false

/-! ### plist_first: function 33 -/
-- EXT Derived.Test.YtndcjncamdhbfaaIdxRange
def plist_first.p (a1_0 a1_1 : Int) (x : S26) : Bool := (plist_met.f (x.f0.f0) (x.f0.f1) (x.f1) (x.f2) (x.f3) a1_0 a1_1).getD false
def plist_first.f (l0 : List S26) (a1_0 : Int) (a1_1 : Int) : Option Int := if l0.all (fun x => (plist_met.f (x.f0.f0) (x.f0.f1) (x.f1) (x.f2) (x.f3) a1_0 a1_1).isSome) then some (idxB (plist_first.p a1_0 a1_1) l0) else none
set_option maxHeartbeats 1000000 in
set_option maxRecDepth 100000 in
theorem plist_first.test (g : Nat) (a1_0 a1_1 : Int) (x : S26) (r : Bool) (W : World) (h : plist_met.f (x.f0.f0) (x.f0.f1) (x.f1) (x.f2) (x.f3) a1_0 a1_1 = some r) (hI : W.heap[g]? = some (.cells #[.int .u32 a1_0, .int .i64 a1_1] 24 (0, 0))) :
    Calls Try.prog 46 #[.agg #[.int .u32 x.f0.f0, .int .i64 x.f0.f1, .int .i64 x.f1, .int .i64 x.f2, .bool x.f3], .pointer (some ⟨g, 0, none⟩)] W fun e w' => e = .returned (.bool r) ∧ Below W.heap.size W w' := by
  have H := mkHid h
  have hg : g < W.heap.size := World.block_lt_of_cell? _ ⟨g, 0, none⟩ (blk_cell hI 0 |>.trans rfl)
  have t0 : W.cell? ⟨g, 0, none⟩ = some (.int .u32 a1_0) := (blk_cell hI 0).trans rfl
  have t1 : W.cell? ⟨g, 1, none⟩ = some (.int .i64 a1_1) := (blk_cell hI 1).trans rfl
  have hne : g ≠ W.heap.size := by omega
  clear h hI
  go_enter Try.func46, Try.ntmps46
  go_wp2_with fail
  refine (plist_met.calls (x.f0.f0) (x.f0.f1) (x.f1) (x.f2) (x.f3) a1_0 a1_1 r _ H.out).mono ?_
  rintro e w' ⟨rfl, hb⟩
  have HB : Hid (Below W.heap.size W w') := below_step ((Below.refl _ _).alloc (Nat.le_refl _) _) hb
  clear hb
  go_wp2_with fail
  go_ret
  exact ⟨rfl, HB.out⟩
set_option maxHeartbeats 1000000 in
set_option maxRecDepth 100000 in
theorem plist_first.calls (A0 : Option Addr) (c0 : Nat) (l0 : List S26) (a1_0 : Int) (a1_1 : Int) (r : Int) (w : World) (hr0 : Kd.C k26 w A0 l0.length l0) (hc0 : l0.length ≤ c0) (h : plist_first.f l0 a1_0 a1_1 = some r) :
    Calls Try.prog 33 #[.slice A0 l0.length c0, .agg #[.int .u32 a1_0, .int .i64 a1_1]] w fun e w' => e = .returned (.int .i64 r) ∧ Below w.heap.size w w' := by
  unfold plist_first.f at h
  split at h
  · rename_i hh
    obtain rfl := Option.some.inj h
    have HA := mkHid (List.all_eq_true.1 hh)
    have HR := mkHid hr0
    clear h hh hr0
    go_enter Try.func33, Try.ntmps33
    go_wp2_with fail
    have hw : ∀ o, Below w.heap.size w (w.alloc o) := fun o => (Below.refl _ _).alloc (Nat.le_refl _) _
    refine (idx_Range 46 #[.pointer (some ⟨w.heap.size, 0, none⟩)] (plist_first.p a1_0 a1_1) (fun W => W.heap[w.heap.size]? = some (.cells #[.int .u32 a1_0, .int .i64 a1_1] 24 (0, 0))) (fun W W' h hb => blk_below h hb) (fun _ _ => by go_simp) A0 c0 l0 (fun x hx W hI => ?_) _ (Kd.C_below HR.out (hw _)) (heap_alloc_new w _)).mono ?_
    · have hs := HA.out x hx
      obtain ⟨b, hb⟩ := Option.isSome_iff_exists.1 hs
      have e : plist_first.p a1_0 a1_1 x = b := by unfold plist_first.p; rw [hb]; rfl
      rw [e]
      exact plist_first.test _ a1_0 a1_1 x b W hb hI
    rintro e w' ⟨rfl, hb⟩
    have HB : Hid (Below w.heap.size w w') := below_step (hw _) hb
    clear hb
    go_wp2_with fail
    go_ret
    exact ⟨rfl, HB.out⟩
  · exact absurd h (by simp)

end Go.Proofs.Ytndcjncamdhbfaa.P

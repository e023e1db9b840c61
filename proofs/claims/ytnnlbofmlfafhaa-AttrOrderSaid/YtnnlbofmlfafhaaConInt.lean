/- slices.ContainsFunc over int: with any test that answers. -/
import Derived.Test.YtnnlbofmlfafhaaIdxInt
set_option linter.unusedVariables false
set_option linter.unusedSimpArgs false
namespace Go.Proofs.Ytnnlbofmlfafhaa.P
open Go.RowKit Go.Proofs.YtnnlbofmlfafhaaW.PrintWords Go.Proofs.YtnnlbofmlfafhaaW.PrintLast Go.Proofs.YtnnlbofmlfafhaaW.PrintMore

set_option maxHeartbeats 2000000 in
set_option maxRecDepth 100000 in
theorem con_Int (fid : Nat) (cap : Array Value) (p : Int → Bool) (Inv : World → Prop) (hInv : ∀ W W', Inv W → Below W.heap.size W W' → Inv W')
    (hen : ∀ (args : Array Value) (W : World), (callFunc fid args).run Try.prog W = .ok (.enter fid args) W)
    (A : Option Addr) (c : Nat) (l : List Int) (hcl : ∀ x, x ∈ l → ∀ W, Inv W → Calls Try.prog fid (#[.int .i64 x] ++ cap) W fun e w' => e = .returned (.bool (p x)) ∧ Below W.heap.size W w')
    (w : World) (hr : Kd.C (Kd.int .i64) w A l.length l) (hI : Inv w) :
    Calls Try.prog 70 #[.slice A l.length c, .func (.func fid) #[] cap] w fun e w' => e = .returned (.bool (l.any p)) ∧ Below w.heap.size w w' := by
  have HI := mkHid (idx_Int fid cap p Inv hInv hen A c l hcl w hr hI)
  clear hcl hr hInv hI hen
  go_enter Try.func70, Try.ntmps70
  go_wp2_with fail
  refine HI.out.mono ?_
  rintro e w' ⟨rfl, hb⟩
  have HB := mkHid hb
  clear hb
  generalize hi : idxB p l = i
  have HE := mkHid hi
  clear hi
  go_wp2_with fail
  go_ret
  refine ⟨?_, HB.out⟩
  rw [← idxB_any p l, HE.out]; rfl
end Go.Proofs.Ytnnlbofmlfafhaa.P

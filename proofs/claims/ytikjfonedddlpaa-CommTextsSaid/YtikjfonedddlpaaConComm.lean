/- slices.ContainsFunc over api.Comm: with any test that answers. -/
import Derived.Test.YtikjfonedddlpaaIdxComm
set_option linter.unusedVariables false
set_option linter.unusedSimpArgs false
namespace Go.Proofs.Ytikjfonedddlpaa.P
open Go.RowKit Go.Proofs.YtikjfonedddlpaaW.PrintWords Go.Proofs.YtikjfonedddlpaaW.PrintLast Go.Proofs.YtikjfonedddlpaaW.PrintMore

set_option maxHeartbeats 2000000 in
set_option maxRecDepth 100000 in
theorem con_Comm (fid : Nat) (cap : Array Value) (p : S23 → Bool) (Inv : World → Prop) (hInv : ∀ W W', Inv W → Below W.heap.size W W' → Inv W')
    (hen : ∀ (args : Array Value) (W : World), (callFunc fid args).run Try.prog W = .ok (.enter fid args) W)
    (A : Option Addr) (c : Nat) (l : List S23) (hcl : ∀ x, x ∈ l → ∀ W, Inv W → Calls Try.prog fid (#[.agg #[.int .i64 x.f0, .int .i64 x.f1]] ++ cap) W fun e w' => e = .returned (.bool (p x)) ∧ Below W.heap.size W w')
    (w : World) (hr : Kd.C k23 w A l.length l) (hI : Inv w) :
    Calls Try.prog 39 #[.slice A l.length c, .func (.func fid) #[] cap] w fun e w' => e = .returned (.bool (l.any p)) ∧ Below w.heap.size w w' := by
  have HI := mkHid (idx_Comm fid cap p Inv hInv hen A c l hcl w hr hI)
  clear hcl hr hInv hI hen
  go_enter Try.func39, Try.ntmps39
  go_wp2_with fail
  refine HI.out.mono ?_
  rintro e w' ⟨rfl, hb⟩
  have HB := mkHid hb
  clear hb
  generalize hi : idxB p l = i
  have HE := mkHid hi
  clear hi
  go_wp2_with fail
  go_ret
  refine ⟨?_, HB.out⟩
  rw [← idxB_any p l, HE.out]; rfl
end Go.Proofs.Ytikjfonedddlpaa.P

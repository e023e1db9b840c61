/- Readings of the arguments' types of this seat's laws, with their bounds. -/
import Derived.Test.YtndcjncamdhbfaaRV
import Derived.Test.YtndcjncamdhbfaaPx0
import Derived.KernelRfl
namespace Go.Proofs.Ytndcjncamdhbfaa.P
open Go.Proofs.YtndcjncamdhbfaaW.PrintWords Go.Proofs.YtndcjncamdhbfaaW.PrintLast Go.Proofs.YtndcjncamdhbfaaW.PrintMore
set_option linter.unusedVariables false
def r22 : RV Try.prog 22 Int (Kd.int .u32) := rInt .u32 Try.underlying22 (by kernel_rfl)
def r3 : RV Try.prog 3 Int (Kd.int .i64) := rInt .i64 Try.underlying3 (by kernel_rfl)
def ok24 (x : S24) : Prop := (okI .u32) x.f0 ∧ (okI .i64) x.f1
def r24 : RV Try.prog 24 S24 k24 := rStruct Try.underlying24 (by kernel_rfl) (by kernel_rfl) (fCons (n := 1) _ rfl (by kernel_rfl) r22 (fCons (n := 1) _ rfl (by kernel_rfl) r3 (fNil _))) (fun x => ⟨x.1, x.2.1⟩) (by rintro w x cs ⟨c0, _, rfl, h0, c1, _, rfl, h1, rfl⟩; exact ⟨c0, _, rfl, h0, (by rw [List.append_nil]; exact h1)⟩) ok24 (fun x h => ⟨h.1, h.2.1⟩)
def r4 : RV Try.prog 4 Bool Kd.bool := rBool Try.underlying4 (by kernel_rfl)
def ok26 (x : S26) : Prop := (ok24) x.f0 ∧ (okI .i64) x.f1 ∧ (okI .i64) x.f2 ∧ ((fun _ : Bool => True)) x.f3
def r26 : RV Try.prog 26 S26 k26 := rStruct Try.underlying26 (by kernel_rfl) (by kernel_rfl) (fCons (n := 2) _ rfl (by kernel_rfl) r24 (fCons (n := 1) _ rfl (by kernel_rfl) r3 (fCons (n := 1) _ rfl (by kernel_rfl) r3 (fCons (n := 1) _ rfl (by kernel_rfl) r4 (fNil _))))) (fun x => ⟨x.1, x.2.1, x.2.2.1, x.2.2.2.1⟩) (by rintro w x cs ⟨c0, _, rfl, h0, c1, _, rfl, h1, c2, _, rfl, h2, c3, _, rfl, h3, rfl⟩; exact ⟨c0, _, rfl, h0, ⟨c1, _, rfl, h1, ⟨c2, _, rfl, h2, (by rw [List.append_nil]; exact h3)⟩⟩⟩) ok26 (fun x h => ⟨h.1, h.2.1, h.2.2.1, h.2.2.2.1⟩)
def r31 : RV Try.prog 31 (List (S26)) (Kd.slice 26 k26) := rSlice (B := 40) Try.underlying31 (by kernel_rfl) (by kernel_rfl) (by decide) (by decide) r26
end Go.Proofs.Ytndcjncamdhbfaa.P

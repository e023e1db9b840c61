/- Readings of the arguments' types of this seat's laws, with their bounds. -/
import Derived.Test.YtnihacajjpcjeaaRV
import Derived.Test.YtnihacajjpcjeaaPx0
import Derived.KernelRfl
namespace Go.Proofs.Ytnihacajjpcjeaa.P
open Go.Proofs.YtnihacajjpcjeaaW.PrintWords Go.Proofs.YtnihacajjpcjeaaW.PrintLast Go.Proofs.YtnihacajjpcjeaaW.PrintMore
set_option linter.unusedVariables false
def r3 : RV Try.prog 3 Int (Kd.int .i64) := rInt .i64 Try.underlying3 (by kernel_rfl)
def r32 : RV Try.prog 32 Int (Kd.int .u32) := rInt .u32 Try.underlying32 (by kernel_rfl)
def ok34 (x : S34) : Prop := (okI .u32) x.f0 ∧ (okI .i64) x.f1
def r34 : RV Try.prog 34 S34 k34 := rStruct Try.underlying34 (by kernel_rfl) (by kernel_rfl) (fCons (n := 1) _ rfl (by kernel_rfl) r32 (fCons (n := 1) _ rfl (by kernel_rfl) r3 (fNil _))) (fun x => ⟨x.1, x.2.1⟩) (by rintro w x cs ⟨c0, _, rfl, h0, c1, _, rfl, h1, rfl⟩; exact ⟨c0, _, rfl, h0, (by rw [List.append_nil]; exact h1)⟩) ok34 (fun x h => ⟨h.1, h.2.1⟩)
def ok61 (x : S61) : Prop := (okI .i64) x.f0 ∧ (okI .i64) x.f1 ∧ (ok34) x.f2 ∧ (okI .u32) x.f3
def r61 : RV Try.prog 61 S61 k61 := rStruct Try.underlying61 (by kernel_rfl) (by kernel_rfl) (fCons (n := 1) _ rfl (by kernel_rfl) r3 (fCons (n := 1) _ rfl (by kernel_rfl) r3 (fCons (n := 2) _ rfl (by kernel_rfl) r34 (fCons (n := 1) _ rfl (by kernel_rfl) r32 (fNil _))))) (fun x => ⟨x.1, x.2.1, x.2.2.1, x.2.2.2.1⟩) (by rintro w x cs ⟨c0, _, rfl, h0, c1, _, rfl, h1, c2, _, rfl, h2, c3, _, rfl, h3, rfl⟩; exact ⟨c0, _, rfl, h0, ⟨c1, _, rfl, h1, ⟨c2, _, rfl, h2, (by rw [List.append_nil]; exact h3)⟩⟩⟩) ok61 (fun x h => ⟨h.1, h.2.1, h.2.2.1, h.2.2.2.1⟩)
def r22 : RV Try.prog 22 (List (S61)) (Kd.slice 61 k61) := rSlice (B := 40) Try.underlying22 (by kernel_rfl) (by kernel_rfl) (by decide) (by decide) r61
end Go.Proofs.Ytnihacajjpcjeaa.P

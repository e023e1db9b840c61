/- Readings of the arguments' types of this seat's laws, with their bounds. -/
import Derived.Test.YtikjfonedddlpaaRV
import Derived.Test.YtikjfonedddlpaaPx0
import Derived.KernelRfl
namespace Go.Proofs.Ytikjfonedddlpaa.P
open Go.Proofs.YtikjfonedddlpaaW.PrintWords Go.Proofs.YtikjfonedddlpaaW.PrintLast Go.Proofs.YtikjfonedddlpaaW.PrintMore
set_option linter.unusedVariables false
def r3 : RV Try.prog 3 Int (Kd.int .i64) := rInt .i64 Try.underlying3 (by kernel_rfl)
def ok23 (x : S23) : Prop := (okI .i64) x.f0 ∧ (okI .i64) x.f1
def r23 : RV Try.prog 23 S23 k23 := rStruct Try.underlying23 (by kernel_rfl) (by kernel_rfl) (fCons (n := 1) _ rfl (by kernel_rfl) r3 (fCons (n := 1) _ rfl (by kernel_rfl) r3 (fNil _))) (fun x => ⟨x.1, x.2.1⟩) (by rintro w x cs ⟨c0, _, rfl, h0, c1, _, rfl, h1, rfl⟩; exact ⟨c0, _, rfl, h0, (by rw [List.append_nil]; exact h1)⟩) ok23 (fun x h => ⟨h.1, h.2.1⟩)
def r9 : RV Try.prog 9 ByteArray Kd.string := rStr Try.underlying9 (by kernel_rfl)
def r32 : RV Try.prog 32 (List (S23)) (Kd.slice 23 k23) := rSlice (B := 16) Try.underlying32 (by kernel_rfl) (by kernel_rfl) (by decide) (by decide) r23
end Go.Proofs.Ytikjfonedddlpaa.P
